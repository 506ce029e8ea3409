/- Walks of our own, a part of those for the law FnExactAnnuityPayment: each function's contract in plain Lean. No condition beyond the bounds that each contract names. -/
import Derived.Test.YtacfepaemphdgaaPureFnExactAnnuityPayment
import Derived.Shelf.SlSorted.Search
import Derived.Test.YtacfepaemphdgaaOFnExactAnnuityPaymenta
namespace Go.Proofs.Ytacfepaemphdgaa.O
open Go.RowKit Go.Proofs.YtacfepaemphdgaaW.PrintWords Go.Proofs.YtacfepaemphdgaaW.PrintLast Go.Proofs.YtacfepaemphdgaaW.PrintMore Go.Proofs.Ytacfepaemphdgaa.PL15AN Go.Proofs.Ytacfepaemphdgaa.EvKit Go.Proofs.Ytacfepaemphdgaa.Pure
set_option linter.unusedVariables false
set_option linter.unusedSimpArgs false
attribute [local go_sem] max2_int min2_int max_two min_two max_three min_three max_four min_four
set_option maxHeartbeats 8000000 in
set_option maxRecDepth 100000 in
theorem paidS_c (A0 : Option Addr) (c0 : Nat) (xs : List S100) (p0 n d pay c m : Int) (hn : xs.length ≤ 1048576) (h0 : 0 < xs.length) (hp0 : -2000000000 ≤ p0 ∧ p0 ≤ 2000000000) (hpay : 0 ≤ pay ∧ pay ≤ 1000000000) (w : World) (hr0 : Kd.C k100 w A0 xs.length xs) :
    Calls Try.prog 84 #[.int .i64 p0, .agg #[.int .i64 n, .int .i64 d], .slice A0 xs.length c0, .int .i64 pay, .int .i64 c, .int .i64 m] w fun e w' => e = .returned (.bool (paidA p0 n d xs pay c m)) ∧ Below w.heap.size w w' := by
  have HB := am_ (Below.refl w.heap.size w)
  have HR0 := am_ hr0
  clear hr0
  obtain ⟨TF, hTF⟩ : ∃ F, F = tabF n d pay c m p0 xs [] := ⟨_, rfl⟩
  obtain ⟨PD, hPD⟩ : ∃ F, F = paidA p0 n d xs pay c m := ⟨_, rfl⟩
  rw [← hPD]
  have hpd : PD = (TF.2 && decide (lastC TF.1 = 0)) := by rw [hPD, hTF]; rfl
  have hfull : TF.2 = true → TF.1.length = xs.length := fun h => by rw [hTF] at h ⊢; have := tabF_full xs p0 [] h; simpa using this
  obtain ⟨rows, ok⟩ := TF
  simp only at hpd hfull
  have HTF := am_ hTF.symm
  clear hTF hPD
  have HP0 := am_ hp0
  have HPY := am_ hpay
  clear hp0 hpay
  go_enter Try.func84, Try.ntmps84
  go_wp2_with ((((with_reducible refine gate_dst (N := 7) rfl ?_); refine box_event ?hg (N := 7) ?hd (cs := #[.int .i64 n, .int .i64 d]) (t := 24) ?hr ?_; (case hd => rfl); (case hg => rfl); (case hr => first | (go_simp; done) | (go_simp; rfl))); intro g1 hg w_g1 hbox hb; have n_ := am_ (below_step (by repeat first | (with_reducible first | exact HB.out | apply ba_ | apply bn_ | apply bd_) | exact HB.out) hb); have BKg1 := am_ hbox; have GEg1 := am_ (show w.heap.size ≤ g1 from by rw [hg]; exact below_size (by repeat first | (with_reducible first | exact HB.out | apply ba_ | apply bn_ | apply bd_) | exact HB.out)); clear HB ; have HB := n_; clear n_ hb hbox hg); have yg1_0 : w_g1.cell? ⟨g1, 0, none⟩ = some (.int .i64 n) := (blk_cell BKg1.out 0).trans rfl; have fg1_0 := blk_frozen BKg1.out 0; have yg1_1 : w_g1.cell? ⟨g1, 1, none⟩ = some (.int .i64 d) := (blk_cell BKg1.out 1).trans rfl; have fg1_1 := blk_frozen BKg1.out 1)
  clear yg1_0 fg1_0 yg1_1 fg1_1
  refine (tabS_c _ _ xs p0 n d pay c m _ (by repeat first | exact (Kd.C_below HR0.out HB.out) | with_reducible refine ca_ ?_ _ | with_reducible refine cn_ ?_ _ | with_reducible refine cd_ ?_) hn HP0.out HPY.out).mono ?_
  rw [HTF.out]
  rintro e w9_ ⟨v, rfl, ho, hb⟩
  replace HB := am_ (below_step (by repeat first | (with_reducible first | exact HB.out | apply ba_ | apply bn_ | apply bd_) | exact HB.out) hb)
  clear hb
  cases ok with
  | false =>
    have HPD := am_ (show PD = false from by rw [hpd]; rfl)
    clear hpd hfull
    go_wp2
    go_ret
    exact ⟨by rw [HPD.out]; rfl, (by repeat first | (with_reducible first | exact HB.out | apply ba_ | apply bn_ | apply bd_) | exact HB.out)⟩
  | true =>
    replace ho : Kd.R k78 78 _ _ (fun _ => True) v rows := ho
    have hlen : rows.length = xs.length := hfull rfl
    clear hfull
    obtain ⟨Ar, cr, hv⟩ := Kd.R_slice ho
    subst hv
    obtain ⟨k, hk⟩ : ∃ k, rows.length = k + 1 := ⟨rows.length - 1, by omega⟩
    obtain ⟨ar, er, _, _, _, hl3⟩ := at_T78 (R_C ho) (k : Int) (by omega) (by omega)
    cases er
    simp only [Int.toNat_natCast] at hl3
    have hlc : (rd_T78 rows (k : Int)).f3 = lastC rows := by unfold lastC; rw [show rows.length - 1 = k from by omega]
    rw [hlc] at hl3
    obtain ⟨LC, hLC⟩ : ∃ L, L = lastC rows := ⟨_, rfl⟩
    rw [← hLC] at hl3 hpd
    have hkk : (rows.length : Int) - 1 = (k : Int) := by omega
    have hkl : (k : Int) < (rows.length : Int) := by omega
    have hrb1 : rows.length ≤ 1048576 := by omega
    have hrb2 : 0 < rows.length := by omega
    clear hk hlc hLC
    by_cases cz : LC = 0
    · have HPD := am_ (show PD = true from by rw [hpd, decide_eq_true cz]; rfl)
      have cb : (LC == 0) = true := by rw [beq_iff_eq]; exact cz
      clear hpd cz hlen
      go_wp2
      go_ret
      exact ⟨by rw [HPD.out]; rfl, (by repeat first | (with_reducible first | exact HB.out | apply ba_ | apply bn_ | apply bd_) | exact HB.out)⟩
    · have HPD := am_ (show PD = false from by rw [hpd, decide_eq_false cz]; rfl)
      have cb : (LC == 0) = false := by rw [beq_eq_false_iff_ne]; exact cz
      clear hpd cz hlen
      go_wp2
      go_ret
      exact ⟨by rw [HPD.out]; rfl, (by repeat first | (with_reducible first | exact HB.out | apply ba_ | apply bn_ | apply bd_) | exact HB.out)⟩
theorem paidF_eq (p0 n d : Int) (xs : List S100) (pay c m : Int) : some (paidA p0 n d xs pay c m) = some (decide (paidA p0 n d xs pay c m = true)) := by cases paidA p0 n d xs pay c m <;> rfl
theorem paidS_c2 (A0 : Option Addr) (c0 : Nat) (xs : List S100) (p0 n d pay c m : Int) (hn : xs.length ≤ 1048576) (h0 : 0 < xs.length) (hp0 : -2000000000 ≤ p0 ∧ p0 ≤ 2000000000) (hpay : 0 ≤ pay ∧ pay ≤ 1000000000) (v : Bool) (hv : some (paidA p0 n d xs pay c m) = some v) (w : World) (hr0 : Kd.C k100 w A0 xs.length xs) :
    Calls Try.prog 84 #[.int .i64 p0, .agg #[.int .i64 n, .int .i64 d], .slice A0 xs.length c0, .int .i64 pay, .int .i64 c, .int .i64 m] w fun e w' => e = .returned (.bool v) ∧ Below w.heap.size w w' := by
  obtain rfl : paidA p0 n d xs pay c m = v := Option.some.inj hv
  exact paidS_c A0 c0 xs p0 n d pay c m hn h0 hp0 hpay w hr0
set_option maxHeartbeats 8000000 in
set_option maxRecDepth 100000 in
theorem annS_c (A0 : Option Addr) (c0 : Nat) (xs : List S100) (p0 n d c m : Int) (hn : xs.length ≤ 1048576) (w : World) (hr0 : Kd.C k100 w A0 xs.length xs) (ha0 : 0 < xs.length → ∃ b, A0 = some ⟨b, 0, none⟩) :
    Calls Try.prog 34 #[.int .i64 p0, .agg #[.int .i64 n, .int .i64 d], .slice A0 xs.length c0, .int .i64 c, .int .i64 m] w fun e w' => e = .returned (.tuple #[.int .i64 (annA p0 n d xs c m).1, .bool (annA p0 n d xs c m).2]) ∧ Below w.heap.size w w' := by
  have HB := am_ (Below.refl w.heap.size w)
  have HR0 := am_ hr0
  have HA0 := am_ ha0
  clear hr0 ha0
  have g0_ := valF_eq p0 n d xs c m
  by_cases c0_ : valA p0 n d xs c m = true
  · rw [decide_eq_true c0_] at g0_
    have G1 := am_ g0_
    clear g0_
    by_cases c1_ : ¬ xs.length = 0
    · have cb1_ : decide (¬ xs.length = 0) = true := decide_eq_true c1_
      have g2_ := paidF_eq p0 n d xs 1000000000 c m
      by_cases c2_ : paidA p0 n d xs 1000000000 c m = true
      · rw [decide_eq_true c2_] at g2_
        have G3 := am_ g2_
        clear g2_
        have hl0 : ¬ ((xs.length : Int) = 0) := by omega
        have hlz : ((xs.length : Int) == 0) = false := by rw [beq_eq_false_iff_ne]; omega
        have HL0 := am_ (show 0 < xs.length from by omega)
        have HP0 := am_ (show -2000000000 ≤ p0 ∧ p0 ≤ 2000000000 from by have := (of_decide_eq_true c0_).1; omega)
        obtain ⟨FIN, hFIN⟩ : ∃ F, F = bsF (fun i => paidA p0 n d xs i c m) 1000000000 0 1000000000 := ⟨_, rfl⟩
        have hfin : annA p0 n d xs c m = (FIN, true) := by unfold annA; rw [if_pos ⟨c0_, by omega, c2_⟩, hFIN]
        rw [hfin]
        obtain ⟨N, hN⟩ : ∃ N : Nat, N = 1000000000 := ⟨_, rfl⟩
        have HF := am_ (show bsF (fun i => paidA p0 n d xs i c m) N 0 1000000000 = FIN from by rw [hN]; exact hFIN.symm)
        have HN := am_ hN
        clear hfin hFIN hN c0_ c2_
        go_enter Try.func34, Try.ntmps34
        go_wp2_with ((((with_reducible refine gate_dst (N := 6) rfl ?_); refine box_event ?hg (N := 6) ?hd (cs := #[.int .i64 n,.int .i64 d]) (t := 24) ?hr ?_; (case hd => rfl); (case hg => rfl); (case hr => first | (go_simp; done) | (go_simp; rfl))); intro g1 hg w_g1 hbox hb; have n_ := am_ (below_step (by repeat first | (with_reducible first | exact HB.out | apply ba_ | apply bn_ | apply bd_) | exact HB.out) hb); have BKg1 := am_ hbox; have GEg1 := am_ (show w.heap.size ≤ g1 from by rw [hg]; exact below_size (by repeat first | (with_reducible first | exact HB.out | apply ba_ | apply bn_ | apply bd_) | exact HB.out)); clear HB ; have HB := n_; clear n_ hb hbox hg); have yg1_0 : w_g1.cell? ⟨g1, 0, none⟩ = some (.int .i64 n) := (blk_cell BKg1.out 0).trans rfl; have fg1_0 := blk_frozen BKg1.out 0; have yg1_1 : w_g1.cell? ⟨g1, 1, none⟩ = some (.int .i64 d) := (blk_cell BKg1.out 1).trans rfl; have fg1_1 := blk_frozen BKg1.out 1)
        clear yg1_0 fg1_0 yg1_1 fg1_1
        refine (valS_c2 _ _ xs p0 n d c m hn true G1.out _ (by repeat first | exact (Kd.C_below HR0.out HB.out) | with_reducible refine ca_ ?_ _ | with_reducible refine cn_ ?_ _ | with_reducible refine cd_ ?_) HA0.out).mono ?_
        rintro e w1_ ⟨rfl, hb⟩
        replace BKg1 := am_ (blk_below (blk_below BKg1.out (by repeat first | exact Below.refl _ _ | apply ba_ | apply bn_ | apply bd_)) hb); replace HB := am_ (below_step (by repeat first | (with_reducible first | exact HB.out | apply ba_ | apply bn_ | apply bd_) | exact HB.out) hb); clear hb
        have yg1_0 : w1_.cell? ⟨g1, 0, none⟩ = some (.int .i64 n) := (blk_cell BKg1.out 0).trans rfl; have fg1_0 := blk_frozen BKg1.out 0; have yg1_1 : w1_.cell? ⟨g1, 1, none⟩ = some (.int .i64 d) := (blk_cell BKg1.out 1).trans rfl; have fg1_1 := blk_frozen BKg1.out 1
        go_wp2_with fail
        clear yg1_0 fg1_0 yg1_1 fg1_1
        refine (paidS_c2 _ _ xs p0 n d 1000000000 c m hn HL0.out HP0.out (by decide) true G3.out _ (by repeat first | exact (Kd.C_below HR0.out HB.out) | with_reducible refine ca_ ?_ _ | with_reducible refine cn_ ?_ _ | with_reducible refine cd_ ?_)).mono ?_
        rintro e w2_ ⟨rfl, hb⟩
        replace BKg1 := am_ (blk_below (blk_below BKg1.out (by repeat first | exact Below.refl _ _ | apply ba_ | apply bn_ | apply bd_)) hb); replace HB := am_ (below_step (by repeat first | (with_reducible first | exact HB.out | apply ba_ | apply bn_ | apply bd_) | exact HB.out) hb); clear hb
        go_wp2
        go_loopg [12, 13] N (fun kq v12 v13 wr => ∃ lo hi : Int, v12 = .int .i64 lo ∧ v13 = .int .i64 hi ∧ Aside0 (0 ≤ lo ∧ lo ≤ hi ∧ hi ≤ 1000000000 ∧ hi - lo ≤ kq) ∧ Aside0 (bsF (fun i => paidA p0 n d xs i c m) kq lo hi = FIN) ∧ Aside0 (wr.heap[g1]? = some (.cells #[.int .i64 n, .int .i64 d] 24 (0, 0))) ∧ Aside0 (Below w.heap.size w wr))
        case atStart => exact ⟨0, 1000000000, rfl, rfl, ⟨by omega, by omega, by omega, by have := HN.out; omega⟩, HF, ⟨(by (with_reducible repeat first | refine kn_ ?_ _ | refine kd_ ?_ | refine ka_ ?_ _); exact BKg1.out)⟩, ⟨(by repeat first | (with_reducible first | exact HB.out | apply ba_ | apply bn_ | apply bd_) | exact HB.out)⟩⟩
        case round =>
          clear HF BKg1 HB
          obtain ⟨lo, hi, rfl, rfl, HI, HF, BKg1, HB⟩ := hrel
          obtain ⟨i1, i2, i3, i4⟩ := HI.out
          by_cases hlt : lo < hi
          · have cb : decide (lo < hi) = true := decide_eq_true hlt
            obtain ⟨md, hmd⟩ : ∃ x, x = (lo + hi) / 2 := ⟨_, rfl⟩
            have hmb : lo ≤ md ∧ md < hi := by omega
            have htd : Int.tdiv (lo + hi) 2 = md := by rw [hmd]; exact Int.tdiv_eq_ediv_of_nonneg (by omega)
            obtain ⟨k', hk'⟩ : ∃ k', gk = k' + 1 := ⟨gk - 1, by omega⟩
            have HK' := am_ hk'
            have hst := HF.out
            rw [hk'] at hst
            have HPY := am_ (show 0 ≤ md ∧ md ≤ 1000000000 from by omega)
            have HMD := am_ hmd
            obtain ⟨pd, hpd⟩ : ∃ x, x = paidA p0 n d xs md c m := ⟨_, rfl⟩
            have HPD := am_ hpd.symm
            cases pd with
            | true =>
              have HFS := am_ (show bsF (fun i => paidA p0 n d xs i c m) k' lo md = FIN from by rw [← hst, bsF_yes hlt (by rw [← hmd]; exact hpd.symm), hmd])
              clear hst hpd hmd hk'
              have yg1_0 : wr.cell? ⟨g1, 0, none⟩ = some (.int .i64 n) := (blk_cell BKg1.out 0).trans rfl; have fg1_0 := blk_frozen BKg1.out 0; have yg1_1 : wr.cell? ⟨g1, 1, none⟩ = some (.int .i64 d) := (blk_cell BKg1.out 1).trans rfl; have fg1_1 := blk_frozen BKg1.out 1
              go_wp2_with fail
              clear yg1_0 fg1_0 yg1_1 fg1_1
              refine (paidS_c _ _ xs p0 n d md c m hn HL0.out HP0.out HPY.out _ (by repeat first | exact (Kd.C_below HR0.out HB.out) | with_reducible refine ca_ ?_ _ | with_reducible refine cn_ ?_ _ | with_reducible refine cd_ ?_)).mono ?_
              rw [HPD.out]
              rintro e w8_ ⟨rfl, hb⟩
              replace BKg1 := am_ (blk_below (blk_below BKg1.out (by repeat first | exact Below.refl _ _ | apply ba_ | apply bn_ | apply bd_)) hb); replace HB := am_ (below_step (by repeat first | (with_reducible first | exact HB.out | apply ba_ | apply bn_ | apply bd_) | exact HB.out) hb); clear hb
              go_wp2
              go_roundg k'
              case measure => have := HK'.out; omega
              case rel => exact ⟨lo, md, by go_num, by go_num, ⟨i1, by omega, by omega, by have := HK'.out; omega⟩, HFS, ⟨(by (with_reducible repeat first | refine kn_ ?_ _ | refine kd_ ?_ | refine ka_ ?_ _); exact BKg1.out)⟩, ⟨(by repeat first | (with_reducible first | exact HB.out | apply ba_ | apply bn_ | apply bd_) | exact HB.out)⟩⟩
            | false =>
              have HFS := am_ (show bsF (fun i => paidA p0 n d xs i c m) k' (md + 1) hi = FIN from by rw [← hst, bsF_no hlt (by rw [← hmd]; exact hpd.symm), hmd])
              clear hst hpd hmd hk'
              have yg1_0 : wr.cell? ⟨g1, 0, none⟩ = some (.int .i64 n) := (blk_cell BKg1.out 0).trans rfl; have fg1_0 := blk_frozen BKg1.out 0; have yg1_1 : wr.cell? ⟨g1, 1, none⟩ = some (.int .i64 d) := (blk_cell BKg1.out 1).trans rfl; have fg1_1 := blk_frozen BKg1.out 1
              go_wp2_with fail
              clear yg1_0 fg1_0 yg1_1 fg1_1
              refine (paidS_c _ _ xs p0 n d md c m hn HL0.out HP0.out HPY.out _ (by repeat first | exact (Kd.C_below HR0.out HB.out) | with_reducible refine ca_ ?_ _ | with_reducible refine cn_ ?_ _ | with_reducible refine cd_ ?_)).mono ?_
              rw [HPD.out]
              rintro e w8_ ⟨rfl, hb⟩
              replace BKg1 := am_ (blk_below (blk_below BKg1.out (by repeat first | exact Below.refl _ _ | apply ba_ | apply bn_ | apply bd_)) hb); replace HB := am_ (below_step (by repeat first | (with_reducible first | exact HB.out | apply ba_ | apply bn_ | apply bd_) | exact HB.out) hb); clear hb
              go_wp2
              go_roundg k'
              case measure => have := HK'.out; omega
              case rel => exact ⟨md + 1, hi, by go_num, by go_num, ⟨by omega, by omega, by omega, by have := HK'.out; omega⟩, HFS, ⟨(by (with_reducible repeat first | refine kn_ ?_ _ | refine kd_ ?_ | refine ka_ ?_ _); exact BKg1.out)⟩, ⟨(by repeat first | (with_reducible first | exact HB.out | apply ba_ | apply bn_ | apply bd_) | exact HB.out)⟩⟩
          · have cb : decide (lo < hi) = false := decide_eq_false hlt
            have hfe := HF.out
            rw [bsF_end hlt] at hfe
            have HFE := am_ hfe
            clear hfe
            go_wp2
            go_ret2
            exact ⟨by rw [← HFE.out]; rfl, HB.out⟩
      · rw [decide_eq_false c2_] at g2_
        have G3 := am_ g2_
        clear g2_
        have hfin : annA p0 n d xs c m = (0, false) := by unfold annA; rw [if_neg (fun v => c2_ v.2.2)]
        rw [hfin]
        clear hfin
        have hl0 : ¬ ((xs.length : Int) = 0) := by omega
        have HL0 := am_ (show 0 < xs.length from by omega)
        have HP0 := am_ (show -2000000000 ≤ p0 ∧ p0 ≤ 2000000000 from by have := (of_decide_eq_true c0_).1; omega)
        clear c0_
        go_enter Try.func34, Try.ntmps34
        go_wp2_with ((((with_reducible refine gate_dst (N := 6) rfl ?_); refine box_event ?hg (N := 6) ?hd (cs := #[.int .i64 n,.int .i64 d]) (t := 24) ?hr ?_; (case hd => rfl); (case hg => rfl); (case hr => first | (go_simp; done) | (go_simp; rfl))); intro g1 hg w_g1 hbox hb; have n_ := am_ (below_step (by repeat first | (with_reducible first | exact HB.out | apply ba_ | apply bn_ | apply bd_) | exact HB.out) hb); have BKg1 := am_ hbox; have GEg1 := am_ (show w.heap.size ≤ g1 from by rw [hg]; exact below_size (by repeat first | (with_reducible first | exact HB.out | apply ba_ | apply bn_ | apply bd_) | exact HB.out)); clear HB ; have HB := n_; clear n_ hb hbox hg); have yg1_0 : w_g1.cell? ⟨g1, 0, none⟩ = some (.int .i64 n) := (blk_cell BKg1.out 0).trans rfl; have fg1_0 := blk_frozen BKg1.out 0; have yg1_1 : w_g1.cell? ⟨g1, 1, none⟩ = some (.int .i64 d) := (blk_cell BKg1.out 1).trans rfl; have fg1_1 := blk_frozen BKg1.out 1)
        clear yg1_0 fg1_0 yg1_1 fg1_1
        refine (valS_c2 _ _ xs p0 n d c m hn true G1.out _ (by repeat first | exact (Kd.C_below HR0.out HB.out) | with_reducible refine ca_ ?_ _ | with_reducible refine cn_ ?_ _ | with_reducible refine cd_ ?_) HA0.out).mono ?_
        rintro e w1_ ⟨rfl, hb⟩
        replace BKg1 := am_ (blk_below (blk_below BKg1.out (by repeat first | exact Below.refl _ _ | apply ba_ | apply bn_ | apply bd_)) hb); replace HB := am_ (below_step (by repeat first | (with_reducible first | exact HB.out | apply ba_ | apply bn_ | apply bd_) | exact HB.out) hb); clear hb
        have yg1_0 : w1_.cell? ⟨g1, 0, none⟩ = some (.int .i64 n) := (blk_cell BKg1.out 0).trans rfl; have fg1_0 := blk_frozen BKg1.out 0; have yg1_1 : w1_.cell? ⟨g1, 1, none⟩ = some (.int .i64 d) := (blk_cell BKg1.out 1).trans rfl; have fg1_1 := blk_frozen BKg1.out 1
        go_wp2_with fail
        clear yg1_0 fg1_0 yg1_1 fg1_1
        refine (paidS_c2 _ _ xs p0 n d 1000000000 c m hn HL0.out HP0.out (by decide) false G3.out _ (by repeat first | exact (Kd.C_below HR0.out HB.out) | with_reducible refine ca_ ?_ _ | with_reducible refine cn_ ?_ _ | with_reducible refine cd_ ?_)).mono ?_
        rintro e w2_ ⟨rfl, hb⟩
        replace BKg1 := am_ (blk_below (blk_below BKg1.out (by repeat first | exact Below.refl _ _ | apply ba_ | apply bn_ | apply bd_)) hb); replace HB := am_ (below_step (by repeat first | (with_reducible first | exact HB.out | apply ba_ | apply bn_ | apply bd_) | exact HB.out) hb); clear hb
        go_wp2
        go_ret2
        exact ⟨rfl, (by repeat first | (with_reducible first | exact HB.out | apply ba_ | apply bn_ | apply bd_) | exact HB.out)⟩
    · have cb1_ : decide (¬ xs.length = 0) = false := decide_eq_false c1_
      have hfin : annA p0 n d xs c m = (0, false) := by unfold annA; rw [if_neg (fun v => c1_ (by have := v.2.1; omega))]
      rw [hfin]
      clear hfin
      have hl0 : (xs.length : Int) = 0 := by omega
      go_enter Try.func34, Try.ntmps34
      go_wp2_with ((((with_reducible refine gate_dst (N := 6) rfl ?_); refine box_event ?hg (N := 6) ?hd (cs := #[.int .i64 n,.int .i64 d]) (t := 24) ?hr ?_; (case hd => rfl); (case hg => rfl); (case hr => first | (go_simp; done) | (go_simp; rfl))); intro g1 hg w_g1 hbox hb; have n_ := am_ (below_step (by repeat first | (with_reducible first | exact HB.out | apply ba_ | apply bn_ | apply bd_) | exact HB.out) hb); have BKg1 := am_ hbox; have GEg1 := am_ (show w.heap.size ≤ g1 from by rw [hg]; exact below_size (by repeat first | (with_reducible first | exact HB.out | apply ba_ | apply bn_ | apply bd_) | exact HB.out)); clear HB ; have HB := n_; clear n_ hb hbox hg); have yg1_0 : w_g1.cell? ⟨g1, 0, none⟩ = some (.int .i64 n) := (blk_cell BKg1.out 0).trans rfl; have fg1_0 := blk_frozen BKg1.out 0; have yg1_1 : w_g1.cell? ⟨g1, 1, none⟩ = some (.int .i64 d) := (blk_cell BKg1.out 1).trans rfl; have fg1_1 := blk_frozen BKg1.out 1)
      clear yg1_0 fg1_0 yg1_1 fg1_1
      refine (valS_c2 _ _ xs p0 n d c m hn true G1.out _ (by repeat first | exact (Kd.C_below HR0.out HB.out) | with_reducible refine ca_ ?_ _ | with_reducible refine cn_ ?_ _ | with_reducible refine cd_ ?_) HA0.out).mono ?_
      rintro e w1_ ⟨rfl, hb⟩
      replace BKg1 := am_ (blk_below (blk_below BKg1.out (by repeat first | exact Below.refl _ _ | apply ba_ | apply bn_ | apply bd_)) hb); replace HB := am_ (below_step (by repeat first | (with_reducible first | exact HB.out | apply ba_ | apply bn_ | apply bd_) | exact HB.out) hb); clear hb
      go_wp2
      go_ret2
      exact ⟨rfl, (by repeat first | (with_reducible first | exact HB.out | apply ba_ | apply bn_ | apply bd_) | exact HB.out)⟩
  · rw [decide_eq_false c0_] at g0_
    have G1 := am_ g0_
    clear g0_
    have hfin : annA p0 n d xs c m = (0, false) := by unfold annA; rw [if_neg (fun v => c0_ v.1)]
    rw [hfin]
    clear hfin
    go_enter Try.func34, Try.ntmps34
    go_wp2_with ((((with_reducible refine gate_dst (N := 6) rfl ?_); refine box_event ?hg (N := 6) ?hd (cs := #[.int .i64 n,.int .i64 d]) (t := 24) ?hr ?_; (case hd => rfl); (case hg => rfl); (case hr => first | (go_simp; done) | (go_simp; rfl))); intro g1 hg w_g1 hbox hb; have n_ := am_ (below_step (by repeat first | (with_reducible first | exact HB.out | apply ba_ | apply bn_ | apply bd_) | exact HB.out) hb); have BKg1 := am_ hbox; have GEg1 := am_ (show w.heap.size ≤ g1 from by rw [hg]; exact below_size (by repeat first | (with_reducible first | exact HB.out | apply ba_ | apply bn_ | apply bd_) | exact HB.out)); clear HB ; have HB := n_; clear n_ hb hbox hg); have yg1_0 : w_g1.cell? ⟨g1, 0, none⟩ = some (.int .i64 n) := (blk_cell BKg1.out 0).trans rfl; have fg1_0 := blk_frozen BKg1.out 0; have yg1_1 : w_g1.cell? ⟨g1, 1, none⟩ = some (.int .i64 d) := (blk_cell BKg1.out 1).trans rfl; have fg1_1 := blk_frozen BKg1.out 1)
    clear yg1_0 fg1_0 yg1_1 fg1_1
    refine (valS_c2 _ _ xs p0 n d c m hn false G1.out _ (by repeat first | exact (Kd.C_below HR0.out HB.out) | with_reducible refine ca_ ?_ _ | with_reducible refine cn_ ?_ _ | with_reducible refine cd_ ?_) HA0.out).mono ?_
    rintro e w1_ ⟨rfl, hb⟩
    replace BKg1 := am_ (blk_below (blk_below BKg1.out (by repeat first | exact Below.refl _ _ | apply ba_ | apply bn_ | apply bd_)) hb); replace HB := am_ (below_step (by repeat first | (with_reducible first | exact HB.out | apply ba_ | apply bn_ | apply bd_) | exact HB.out) hb); clear hb
    go_wp2
    go_ret2
    exact ⟨rfl, (by repeat first | (with_reducible first | exact HB.out | apply ba_ | apply bn_ | apply bd_) | exact HB.out)⟩
set_option maxHeartbeats 8000000 in
set_option maxRecDepth 100000 in
theorem search_c (g : Nat) (eg : ∀ args w, (callFunc g args).run Try.prog w = .ok (.enter g args) w) (lb : Array Value) (p : Int → Bool) (N : Nat) (hN : N ≤ 1000000000) (w : World) (hf : ∀ (W : World) (i : Int), 0 ≤ i → i < N → Below w.heap.size w W → Calls Try.prog g (#[.int .i64 i] ++ lb) W fun e w' => e = .returned (.bool (p i)) ∧ Below W.heap.size W w') :
    Calls Try.prog 86 #[.int .i64 N, .func (.func g) #[] lb] w fun e w' => e = .returned (.int .i64 (bsF p N 0 N)) ∧ Below w.heap.size w w' := by
  have HFN := am_ hf
  obtain ⟨FIN, hFIN⟩ : ∃ F, F = bsF p N 0 N := ⟨_, rfl⟩
  rw [← hFIN]
  have HF := am_ (show bsF p N ((0 : Nat) : Int) ((N : Nat) : Int) = FIN from hFIN.symm)
  clear hf hFIN
  go_enter Try.func86, Try.ntmps86
  go_wp2
  go_loopg [5, 6] N (fun kq v5 v6 wr => ∃ lo hi : Nat, v5 = .int .i64 lo ∧ v6 = .int .i64 hi ∧ Aside0 (lo ≤ hi ∧ hi ≤ N ∧ hi - lo ≤ kq) ∧ Aside0 (bsF p kq lo hi = FIN) ∧ Aside0 (Below w.heap.size w wr))
  case atStart => exact ⟨0, N, rfl, rfl, ⟨Nat.zero_le _, Nat.le_refl _, by omega⟩, HF, ⟨Below.refl _ _⟩⟩
  case round =>
    clear HF
    obtain ⟨lo, hi, rfl, rfl, HI, HF, HB⟩ := hrel
    obtain ⟨i1, i2, i3⟩ := HI.out
    by_cases hlt : lo < hi
    · obtain ⟨k', hk'⟩ : ∃ k', gk = k' + 1 := ⟨gk - 1, by omega⟩
      have HK' := am_ hk'
      have hc := HFN.out wr (((lo + hi) / 2 : Nat) : Int) (by omega) (by omega) HB.out
      have hst := HF.out
      have he : (((lo + hi) / 2 : Nat) : Int) = ((lo : Int) + (hi : Int)) / 2 := by omega
      rw [hk'] at hst
      rw [he] at hc
      have HLT := am_ (show (lo : Int) < (hi : Int) from by omega)
      have HE := am_ he
      obtain ⟨pv, hpv⟩ : ∃ x, x = p (((lo : Int) + (hi : Int)) / 2) := ⟨_, rfl⟩
      rw [← hpv] at hc
      cases pv with
      | true =>
        have HFS := am_ (show bsF p k' lo (((lo + hi) / 2 : Nat) : Int) = FIN from by rw [← hst, bsF_yes HLT.out hpv.symm, HE.out])
        clear hst hpv he hk'
        go_wp2_with (go_at_fn g; refine hc.mono ?_; rintro e w2 ⟨rfl, hb⟩; replace HB := am_ (below_step (by repeat first | (with_reducible first | exact HB.out | apply ba_ | apply bn_ | apply bd_) | exact HB.out) hb); clear hb)
        go_roundg k'
        case measure => have := HK'.out; omega
        case rel => exact ⟨lo, (lo + hi) / 2, by go_num, by rw [HE.out], ⟨by omega, by omega, by have := HK'.out; omega⟩, HFS, ⟨(by repeat first | (with_reducible first | exact HB.out | apply ba_ | apply bn_ | apply bd_) | exact HB.out)⟩⟩
      | false =>
        have HFS := am_ (show bsF p k' (((lo + hi) / 2 + 1 : Nat) : Int) hi = FIN from by rw [← hst, bsF_no HLT.out hpv.symm, ← HE.out]; rfl)
        clear hst hpv he hk'
        go_wp2_with (go_at_fn g; refine hc.mono ?_; rintro e w2 ⟨rfl, hb⟩; replace HB := am_ (below_step (by repeat first | (with_reducible first | exact HB.out | apply ba_ | apply bn_ | apply bd_) | exact HB.out) hb); clear hb)
        go_roundg k'
        case measure => have := HK'.out; omega
        case rel => exact ⟨(lo + hi) / 2 + 1, hi, by rw [← HE.out]; rfl, by go_num, ⟨by omega, by omega, by have := HK'.out; omega⟩, HFS, ⟨(by repeat first | (with_reducible first | exact HB.out | apply ba_ | apply bn_ | apply bd_) | exact HB.out)⟩⟩
    · have hfe := HF.out
      rw [bsF_end (by omega)] at hfe
      have HFE := am_ hfe
      clear hfe
      go_wp2
      go_ret
      exact ⟨by rw [← HFE.out]; rfl, HB.out⟩
set_option maxHeartbeats 8000000 in
set_option maxRecDepth 100000 in
theorem fracI_c (a b : Int) (ha : a.natAbs ≤ 4000000000000000000) (hb : b.natAbs ≤ 4000000000000000000) (h0 : b ≠ 0) (w : World) :
    Calls Try.prog 56 #[.int .i64 a, .int .i64 b] w fun e w' => e = .returned (.tuple #[.agg #[.int .i64 (fracA a b).1, .int .i64 (fracA a b).2.1], .bool (fracA a b).2.2]) ∧ Below w.heap.size w w' := by
  have HB := am_ (Below.refl w.heap.size w)
  obtain ⟨kd, hkd⟩ := roundsOf (implDiv_ev a b (by omega) (by omega))
  obtain ⟨g, n, d, hg, hgb, hnb, hdb, hneg, hpos, hfin⟩ := frac_parts a b ha hb h0
  rw [hg] at hkd
  rw [hfin]
  obtain ⟨kf, hkf⟩ := roundsOf (implIsF_ev n d)
  have HKD := am_ hkd
  clear hkd hg hfin ha hb h0
  by_cases hok : okF n d
  · rw [decide_eq_true hok] at hkf
    rw [if_pos hok]
    have HKF := am_ hkf
    clear hkf hok
    by_cases cb : b < 0
    · have cbb : decide (b < 0) = true := decide_eq_true cb
      obtain ⟨hq1, hq2⟩ := hneg cb
      have HQ1 := am_ hq1
      have HQ2 := am_ hq2
      clear hneg hpos cb hq1 hq2
      go_enter Try.func56, Try.ntmps56
      go_wp2_with (((with_reducible refine gate_dst (N := 4) rfl ?_); refine box_event ?hg (N := 4) ?hd (cs := #[.int .i64 0, .int .i64 0]) (t := 24) ?hr ?_; (case hd => rfl); (case hg => rfl); (case hr => first | (go_simp; done) | (go_simp; rfl))); intro g1 hg w_g1 hbox hb; have n_ := am_ (below_step (by repeat first | (with_reducible first | exact HB.out | apply ba_ | apply bn_ | apply bd_) | exact HB.out) hb); have BKg1 := am_ hbox; have GEg1 := am_ (show w.heap.size ≤ g1 from by rw [hg]; exact below_size (by repeat first | (with_reducible first | exact HB.out | apply ba_ | apply bn_ | apply bd_) | exact HB.out)); clear HB ; have HB := n_; clear n_ hb hbox hg)
      refine (impl_divisor.calls kd a b g _ HKD.out).mono ?_
      rintro e w1 ⟨rfl, hb⟩
      replace BKg1 := am_ (blk_below (blk_below BKg1.out (by repeat first | exact Below.refl _ _ | apply ba_ | apply bn_ | apply bd_)) hb); replace HB := am_ (below_step (by repeat first | (with_reducible first | exact HB.out | apply ba_ | apply bn_ | apply bd_) | exact HB.out) hb); clear hb
      have hgz : ¬ (-g = 0) := by omega
      have hgz2 : ((-g : Int) == 0) = false := by rw [beq_eq_false_iff_ne]; omega
      go_upto_region 4 with (fail)
      have hq1 := HQ1.out
      have hq2 := HQ2.out
      go_cut [7] (fun v7 wx => ∃ g2, v7 = .pointer (some ⟨g2, 0, none⟩) ∧ Aside0 (w.heap.size ≤ g2) ∧ Aside0 (g1 ≠ g2) ∧ Aside0 (wx.heap[g1]? = some (.cells #[.int .i64 0, .int .i64 0] 24 (0, 0))) ∧ Aside0 (wx.heap[g2]? = some (.cells #[.int .i64 n, .int .i64 d] 24 (0, 0))) ∧ Aside0 (Below w.heap.size w wx))
      case first =>
        go_region
        all_goals (go_wp2_with fail; go_meet; exact ⟨_, rfl, ⟨below_size (by repeat first | (with_reducible first | exact HB.out | apply ba_ | apply bn_ | apply bd_) | exact HB.out)⟩, ⟨Nat.ne_of_lt (blk_lt (by (with_reducible repeat first | refine kn_ ?_ _ | refine kd_ ?_ | refine ka_ ?_ _); exact BKg1.out))⟩, ⟨blk_alloc (by (with_reducible repeat first | refine kn_ ?_ _ | refine kd_ ?_ | refine ka_ ?_ _); exact BKg1.out) _⟩, ⟨by first | exact blk_new _ _ | exact kd_ (blk_new _ _)⟩, ⟨(by repeat first | (with_reducible first | exact HB.out | apply ba_ | apply bn_ | apply bd_) | exact HB.out)⟩⟩)
      case rest =>
        clear BKg1 HB hq1 hq2
        obtain ⟨g2, rfl, GEg2, NEg1_g2, BKg1, BKg2, HB⟩ := hcut
        have yg2_0 : wc.cell? ⟨g2, 0, none⟩ = some (.int .i64 n) := (blk_cell BKg2.out 0).trans rfl; have fg2_0 := blk_frozen BKg2.out 0; have yg2_1 : wc.cell? ⟨g2, 1, none⟩ = some (.int .i64 d) := (blk_cell BKg2.out 1).trans rfl; have fg2_1 := blk_frozen BKg2.out 1
        go_wp2_with fail
        clear yg2_0 fg2_0 yg2_1 fg2_1
        refine (impl_isFraction.calls kf n d true _ HKF.out).mono ?_
        rintro e w2 ⟨rfl, hb⟩
        replace BKg1 := am_ (blk_below (blk_below BKg1.out (by repeat first | exact Below.refl _ _ | apply ba_ | apply bn_ | apply bd_)) hb); replace BKg2 := am_ (blk_below (blk_below BKg2.out (by repeat first | exact Below.refl _ _ | apply ba_ | apply bn_ | apply bd_)) hb); replace HB := am_ (below_step (by repeat first | (with_reducible first | exact HB.out | apply ba_ | apply bn_ | apply bd_) | exact HB.out) hb); clear hb
        have yg1_0 : w2.cell? ⟨g1, 0, none⟩ = some (.int .i64 0) := (blk_cell BKg1.out 0).trans rfl; have fg1_0 := blk_frozen BKg1.out 0; have yg1_1 : w2.cell? ⟨g1, 1, none⟩ = some (.int .i64 0) := (blk_cell BKg1.out 1).trans rfl; have fg1_1 := blk_frozen BKg1.out 1
        have yg2_0 : w2.cell? ⟨g2, 0, none⟩ = some (.int .i64 n) := (blk_cell BKg2.out 0).trans rfl; have fg2_0 := blk_frozen BKg2.out 0; have yg2_1 : w2.cell? ⟨g2, 1, none⟩ = some (.int .i64 d) := (blk_cell BKg2.out 1).trans rfl; have fg2_1 := blk_frozen BKg2.out 1
        have hn1_ := NEg1_g2.out
        have hn2_ := Ne.symm hn1_
        go_wp2
        refine bodyPost_ret (results_ct rfl _ _ g1 24 #[.int .i64 n, .int .i64 d] (0, 0) _ rfl (by (with_reducible repeat first | refine kn_ ?_ _ | refine kd_ ?_ | refine ka_ ?_ _); refine blk_put (cs := #[.int .i64 n, .int .i64 0]) ?_ 1 _ rfl; (with_reducible repeat first | refine kn_ ?_ _ | refine kd_ ?_ | refine ka_ ?_ _); refine blk_put (cs := #[.int .i64 0, .int .i64 0]) ?_ 0 _ rfl; (with_reducible repeat first | refine kn_ ?_ _ | refine kd_ ?_ | refine ka_ ?_ _); exact BKg1.out) Try.underlying24 rfl (by kernel_rfl)) rfl ?_
        exact ⟨rfl, (by repeat first | (with_reducible first | exact HB.out | apply ba_ | apply bn_ | apply bd_ | refine below_set ?_ GEg1.out) | exact HB.out)⟩
    · have cbb : decide (b < 0) = false := decide_eq_false cb
      obtain ⟨hq1, hq2⟩ := hpos cb
      have HQ1 := am_ hq1
      have HQ2 := am_ hq2
      clear hneg hpos cb hq1 hq2
      go_enter Try.func56, Try.ntmps56
      go_wp2_with (((with_reducible refine gate_dst (N := 4) rfl ?_); refine box_event ?hg (N := 4) ?hd (cs := #[.int .i64 0, .int .i64 0]) (t := 24) ?hr ?_; (case hd => rfl); (case hg => rfl); (case hr => first | (go_simp; done) | (go_simp; rfl))); intro g1 hg w_g1 hbox hb; have n_ := am_ (below_step (by repeat first | (with_reducible first | exact HB.out | apply ba_ | apply bn_ | apply bd_) | exact HB.out) hb); have BKg1 := am_ hbox; have GEg1 := am_ (show w.heap.size ≤ g1 from by rw [hg]; exact below_size (by repeat first | (with_reducible first | exact HB.out | apply ba_ | apply bn_ | apply bd_) | exact HB.out)); clear HB ; have HB := n_; clear n_ hb hbox hg)
      refine (impl_divisor.calls kd a b g _ HKD.out).mono ?_
      rintro e w1 ⟨rfl, hb⟩
      replace BKg1 := am_ (blk_below (blk_below BKg1.out (by repeat first | exact Below.refl _ _ | apply ba_ | apply bn_ | apply bd_)) hb); replace HB := am_ (below_step (by repeat first | (with_reducible first | exact HB.out | apply ba_ | apply bn_ | apply bd_) | exact HB.out) hb); clear hb
      have hgz : ¬ (g = 0) := by omega
      have hgz2 : ((g : Int) == 0) = false := by rw [beq_eq_false_iff_ne]; omega
      go_upto_region 4 with (fail)
      have hq1 := HQ1.out
      have hq2 := HQ2.out
      go_cut [7] (fun v7 wx => ∃ g2, v7 = .pointer (some ⟨g2, 0, none⟩) ∧ Aside0 (w.heap.size ≤ g2) ∧ Aside0 (g1 ≠ g2) ∧ Aside0 (wx.heap[g1]? = some (.cells #[.int .i64 0, .int .i64 0] 24 (0, 0))) ∧ Aside0 (wx.heap[g2]? = some (.cells #[.int .i64 n, .int .i64 d] 24 (0, 0))) ∧ Aside0 (Below w.heap.size w wx))
      case first =>
        go_region
        all_goals (go_wp2_with fail; go_meet; exact ⟨_, rfl, ⟨below_size (by repeat first | (with_reducible first | exact HB.out | apply ba_ | apply bn_ | apply bd_) | exact HB.out)⟩, ⟨Nat.ne_of_lt (blk_lt (by (with_reducible repeat first | refine kn_ ?_ _ | refine kd_ ?_ | refine ka_ ?_ _); exact BKg1.out))⟩, ⟨blk_alloc (by (with_reducible repeat first | refine kn_ ?_ _ | refine kd_ ?_ | refine ka_ ?_ _); exact BKg1.out) _⟩, ⟨by first | exact blk_new _ _ | exact kd_ (blk_new _ _)⟩, ⟨(by repeat first | (with_reducible first | exact HB.out | apply ba_ | apply bn_ | apply bd_) | exact HB.out)⟩⟩)
      case rest =>
        clear BKg1 HB hq1 hq2
        obtain ⟨g2, rfl, GEg2, NEg1_g2, BKg1, BKg2, HB⟩ := hcut
        have yg2_0 : wc.cell? ⟨g2, 0, none⟩ = some (.int .i64 n) := (blk_cell BKg2.out 0).trans rfl; have fg2_0 := blk_frozen BKg2.out 0; have yg2_1 : wc.cell? ⟨g2, 1, none⟩ = some (.int .i64 d) := (blk_cell BKg2.out 1).trans rfl; have fg2_1 := blk_frozen BKg2.out 1
        go_wp2_with fail
        clear yg2_0 fg2_0 yg2_1 fg2_1
        refine (impl_isFraction.calls kf n d true _ HKF.out).mono ?_
        rintro e w2 ⟨rfl, hb⟩
        replace BKg1 := am_ (blk_below (blk_below BKg1.out (by repeat first | exact Below.refl _ _ | apply ba_ | apply bn_ | apply bd_)) hb); replace BKg2 := am_ (blk_below (blk_below BKg2.out (by repeat first | exact Below.refl _ _ | apply ba_ | apply bn_ | apply bd_)) hb); replace HB := am_ (below_step (by repeat first | (with_reducible first | exact HB.out | apply ba_ | apply bn_ | apply bd_) | exact HB.out) hb); clear hb
        have yg1_0 : w2.cell? ⟨g1, 0, none⟩ = some (.int .i64 0) := (blk_cell BKg1.out 0).trans rfl; have fg1_0 := blk_frozen BKg1.out 0; have yg1_1 : w2.cell? ⟨g1, 1, none⟩ = some (.int .i64 0) := (blk_cell BKg1.out 1).trans rfl; have fg1_1 := blk_frozen BKg1.out 1
        have yg2_0 : w2.cell? ⟨g2, 0, none⟩ = some (.int .i64 n) := (blk_cell BKg2.out 0).trans rfl; have fg2_0 := blk_frozen BKg2.out 0; have yg2_1 : w2.cell? ⟨g2, 1, none⟩ = some (.int .i64 d) := (blk_cell BKg2.out 1).trans rfl; have fg2_1 := blk_frozen BKg2.out 1
        have hn1_ := NEg1_g2.out
        have hn2_ := Ne.symm hn1_
        go_wp2
        refine bodyPost_ret (results_ct rfl _ _ g1 24 #[.int .i64 n, .int .i64 d] (0, 0) _ rfl (by (with_reducible repeat first | refine kn_ ?_ _ | refine kd_ ?_ | refine ka_ ?_ _); refine blk_put (cs := #[.int .i64 n, .int .i64 0]) ?_ 1 _ rfl; (with_reducible repeat first | refine kn_ ?_ _ | refine kd_ ?_ | refine ka_ ?_ _); refine blk_put (cs := #[.int .i64 0, .int .i64 0]) ?_ 0 _ rfl; (with_reducible repeat first | refine kn_ ?_ _ | refine kd_ ?_ | refine ka_ ?_ _); exact BKg1.out) Try.underlying24 rfl (by kernel_rfl)) rfl ?_
        exact ⟨rfl, (by repeat first | (with_reducible first | exact HB.out | apply ba_ | apply bn_ | apply bd_ | refine below_set ?_ GEg1.out) | exact HB.out)⟩
  · rw [decide_eq_false hok] at hkf
    rw [if_neg hok]
    have HKF := am_ hkf
    clear hkf hok
    by_cases cb : b < 0
    · have cbb : decide (b < 0) = true := decide_eq_true cb
      obtain ⟨hq1, hq2⟩ := hneg cb
      have HQ1 := am_ hq1
      have HQ2 := am_ hq2
      clear hneg hpos cb hq1 hq2
      go_enter Try.func56, Try.ntmps56
      go_wp2_with (((with_reducible refine gate_dst (N := 4) rfl ?_); refine box_event ?hg (N := 4) ?hd (cs := #[.int .i64 0, .int .i64 0]) (t := 24) ?hr ?_; (case hd => rfl); (case hg => rfl); (case hr => first | (go_simp; done) | (go_simp; rfl))); intro g1 hg w_g1 hbox hb; have n_ := am_ (below_step (by repeat first | (with_reducible first | exact HB.out | apply ba_ | apply bn_ | apply bd_) | exact HB.out) hb); have BKg1 := am_ hbox; have GEg1 := am_ (show w.heap.size ≤ g1 from by rw [hg]; exact below_size (by repeat first | (with_reducible first | exact HB.out | apply ba_ | apply bn_ | apply bd_) | exact HB.out)); clear HB ; have HB := n_; clear n_ hb hbox hg)
      refine (impl_divisor.calls kd a b g _ HKD.out).mono ?_
      rintro e w1 ⟨rfl, hb⟩
      replace BKg1 := am_ (blk_below (blk_below BKg1.out (by repeat first | exact Below.refl _ _ | apply ba_ | apply bn_ | apply bd_)) hb); replace HB := am_ (below_step (by repeat first | (with_reducible first | exact HB.out | apply ba_ | apply bn_ | apply bd_) | exact HB.out) hb); clear hb
      have hgz : ¬ (-g = 0) := by omega
      have hgz2 : ((-g : Int) == 0) = false := by rw [beq_eq_false_iff_ne]; omega
      go_upto_region 4 with (fail)
      have hq1 := HQ1.out
      have hq2 := HQ2.out
      go_cut [7] (fun v7 wx => ∃ g2, v7 = .pointer (some ⟨g2, 0, none⟩) ∧ Aside0 (w.heap.size ≤ g2) ∧ Aside0 (g1 ≠ g2) ∧ Aside0 (wx.heap[g1]? = some (.cells #[.int .i64 0, .int .i64 0] 24 (0, 0))) ∧ Aside0 (wx.heap[g2]? = some (.cells #[.int .i64 n, .int .i64 d] 24 (0, 0))) ∧ Aside0 (Below w.heap.size w wx))
      case first =>
        go_region
        all_goals (go_wp2_with fail; go_meet; exact ⟨_, rfl, ⟨below_size (by repeat first | (with_reducible first | exact HB.out | apply ba_ | apply bn_ | apply bd_) | exact HB.out)⟩, ⟨Nat.ne_of_lt (blk_lt (by (with_reducible repeat first | refine kn_ ?_ _ | refine kd_ ?_ | refine ka_ ?_ _); exact BKg1.out))⟩, ⟨blk_alloc (by (with_reducible repeat first | refine kn_ ?_ _ | refine kd_ ?_ | refine ka_ ?_ _); exact BKg1.out) _⟩, ⟨by first | exact blk_new _ _ | exact kd_ (blk_new _ _)⟩, ⟨(by repeat first | (with_reducible first | exact HB.out | apply ba_ | apply bn_ | apply bd_) | exact HB.out)⟩⟩)
      case rest =>
        clear BKg1 HB hq1 hq2
        obtain ⟨g2, rfl, GEg2, NEg1_g2, BKg1, BKg2, HB⟩ := hcut
        have yg2_0 : wc.cell? ⟨g2, 0, none⟩ = some (.int .i64 n) := (blk_cell BKg2.out 0).trans rfl; have fg2_0 := blk_frozen BKg2.out 0; have yg2_1 : wc.cell? ⟨g2, 1, none⟩ = some (.int .i64 d) := (blk_cell BKg2.out 1).trans rfl; have fg2_1 := blk_frozen BKg2.out 1
        go_wp2_with fail
        clear yg2_0 fg2_0 yg2_1 fg2_1
        refine (impl_isFraction.calls kf n d false _ HKF.out).mono ?_
        rintro e w2 ⟨rfl, hb⟩
        replace BKg1 := am_ (blk_below (blk_below BKg1.out (by repeat first | exact Below.refl _ _ | apply ba_ | apply bn_ | apply bd_)) hb); replace BKg2 := am_ (blk_below (blk_below BKg2.out (by repeat first | exact Below.refl _ _ | apply ba_ | apply bn_ | apply bd_)) hb); replace HB := am_ (below_step (by repeat first | (with_reducible first | exact HB.out | apply ba_ | apply bn_ | apply bd_) | exact HB.out) hb); clear hb
        have yg1_0 : w2.cell? ⟨g1, 0, none⟩ = some (.int .i64 0) := (blk_cell BKg1.out 0).trans rfl; have fg1_0 := blk_frozen BKg1.out 0; have yg1_1 : w2.cell? ⟨g1, 1, none⟩ = some (.int .i64 0) := (blk_cell BKg1.out 1).trans rfl; have fg1_1 := blk_frozen BKg1.out 1
        have yg2_0 : w2.cell? ⟨g2, 0, none⟩ = some (.int .i64 n) := (blk_cell BKg2.out 0).trans rfl; have fg2_0 := blk_frozen BKg2.out 0; have yg2_1 : w2.cell? ⟨g2, 1, none⟩ = some (.int .i64 d) := (blk_cell BKg2.out 1).trans rfl; have fg2_1 := blk_frozen BKg2.out 1
        have hn1_ := NEg1_g2.out
        have hn2_ := Ne.symm hn1_
        go_wp2
        refine bodyPost_ret (results_ct rfl _ _ g1 24 #[.int .i64 0, .int .i64 0] (0, 0) _ rfl (by (with_reducible repeat first | refine kn_ ?_ _ | refine kd_ ?_ | refine ka_ ?_ _); refine blk_put (cs := #[.int .i64 0, .int .i64 0]) ?_ 1 _ rfl; (with_reducible repeat first | refine kn_ ?_ _ | refine kd_ ?_ | refine ka_ ?_ _); refine blk_put (cs := #[.int .i64 0, .int .i64 0]) ?_ 0 _ rfl; (with_reducible repeat first | refine kn_ ?_ _ | refine kd_ ?_ | refine ka_ ?_ _); exact BKg1.out) Try.underlying24 rfl (by kernel_rfl)) rfl ?_
        exact ⟨rfl, (by repeat first | (with_reducible first | exact HB.out | apply ba_ | apply bn_ | apply bd_ | refine below_set ?_ GEg1.out) | exact HB.out)⟩
    · have cbb : decide (b < 0) = false := decide_eq_false cb
      obtain ⟨hq1, hq2⟩ := hpos cb
      have HQ1 := am_ hq1
      have HQ2 := am_ hq2
      clear hneg hpos cb hq1 hq2
      go_enter Try.func56, Try.ntmps56
      go_wp2_with (((with_reducible refine gate_dst (N := 4) rfl ?_); refine box_event ?hg (N := 4) ?hd (cs := #[.int .i64 0, .int .i64 0]) (t := 24) ?hr ?_; (case hd => rfl); (case hg => rfl); (case hr => first | (go_simp; done) | (go_simp; rfl))); intro g1 hg w_g1 hbox hb; have n_ := am_ (below_step (by repeat first | (with_reducible first | exact HB.out | apply ba_ | apply bn_ | apply bd_) | exact HB.out) hb); have BKg1 := am_ hbox; have GEg1 := am_ (show w.heap.size ≤ g1 from by rw [hg]; exact below_size (by repeat first | (with_reducible first | exact HB.out | apply ba_ | apply bn_ | apply bd_) | exact HB.out)); clear HB ; have HB := n_; clear n_ hb hbox hg)
      refine (impl_divisor.calls kd a b g _ HKD.out).mono ?_
      rintro e w1 ⟨rfl, hb⟩
      replace BKg1 := am_ (blk_below (blk_below BKg1.out (by repeat first | exact Below.refl _ _ | apply ba_ | apply bn_ | apply bd_)) hb); replace HB := am_ (below_step (by repeat first | (with_reducible first | exact HB.out | apply ba_ | apply bn_ | apply bd_) | exact HB.out) hb); clear hb
      have hgz : ¬ (g = 0) := by omega
      have hgz2 : ((g : Int) == 0) = false := by rw [beq_eq_false_iff_ne]; omega
      go_upto_region 4 with (fail)
      have hq1 := HQ1.out
      have hq2 := HQ2.out
      go_cut [7] (fun v7 wx => ∃ g2, v7 = .pointer (some ⟨g2, 0, none⟩) ∧ Aside0 (w.heap.size ≤ g2) ∧ Aside0 (g1 ≠ g2) ∧ Aside0 (wx.heap[g1]? = some (.cells #[.int .i64 0, .int .i64 0] 24 (0, 0))) ∧ Aside0 (wx.heap[g2]? = some (.cells #[.int .i64 n, .int .i64 d] 24 (0, 0))) ∧ Aside0 (Below w.heap.size w wx))
      case first =>
        go_region
        all_goals (go_wp2_with fail; go_meet; exact ⟨_, rfl, ⟨below_size (by repeat first | (with_reducible first | exact HB.out | apply ba_ | apply bn_ | apply bd_) | exact HB.out)⟩, ⟨Nat.ne_of_lt (blk_lt (by (with_reducible repeat first | refine kn_ ?_ _ | refine kd_ ?_ | refine ka_ ?_ _); exact BKg1.out))⟩, ⟨blk_alloc (by (with_reducible repeat first | refine kn_ ?_ _ | refine kd_ ?_ | refine ka_ ?_ _); exact BKg1.out) _⟩, ⟨by first | exact blk_new _ _ | exact kd_ (blk_new _ _)⟩, ⟨(by repeat first | (with_reducible first | exact HB.out | apply ba_ | apply bn_ | apply bd_) | exact HB.out)⟩⟩)
      case rest =>
        clear BKg1 HB hq1 hq2
        obtain ⟨g2, rfl, GEg2, NEg1_g2, BKg1, BKg2, HB⟩ := hcut
        have yg2_0 : wc.cell? ⟨g2, 0, none⟩ = some (.int .i64 n) := (blk_cell BKg2.out 0).trans rfl; have fg2_0 := blk_frozen BKg2.out 0; have yg2_1 : wc.cell? ⟨g2, 1, none⟩ = some (.int .i64 d) := (blk_cell BKg2.out 1).trans rfl; have fg2_1 := blk_frozen BKg2.out 1
        go_wp2_with fail
        clear yg2_0 fg2_0 yg2_1 fg2_1
        refine (impl_isFraction.calls kf n d false _ HKF.out).mono ?_
        rintro e w2 ⟨rfl, hb⟩
        replace BKg1 := am_ (blk_below (blk_below BKg1.out (by repeat first | exact Below.refl _ _ | apply ba_ | apply bn_ | apply bd_)) hb); replace BKg2 := am_ (blk_below (blk_below BKg2.out (by repeat first | exact Below.refl _ _ | apply ba_ | apply bn_ | apply bd_)) hb); replace HB := am_ (below_step (by repeat first | (with_reducible first | exact HB.out | apply ba_ | apply bn_ | apply bd_) | exact HB.out) hb); clear hb
        have yg1_0 : w2.cell? ⟨g1, 0, none⟩ = some (.int .i64 0) := (blk_cell BKg1.out 0).trans rfl; have fg1_0 := blk_frozen BKg1.out 0; have yg1_1 : w2.cell? ⟨g1, 1, none⟩ = some (.int .i64 0) := (blk_cell BKg1.out 1).trans rfl; have fg1_1 := blk_frozen BKg1.out 1
        have yg2_0 : w2.cell? ⟨g2, 0, none⟩ = some (.int .i64 n) := (blk_cell BKg2.out 0).trans rfl; have fg2_0 := blk_frozen BKg2.out 0; have yg2_1 : w2.cell? ⟨g2, 1, none⟩ = some (.int .i64 d) := (blk_cell BKg2.out 1).trans rfl; have fg2_1 := blk_frozen BKg2.out 1
        have hn1_ := NEg1_g2.out
        have hn2_ := Ne.symm hn1_
        go_wp2
        refine bodyPost_ret (results_ct rfl _ _ g1 24 #[.int .i64 0, .int .i64 0] (0, 0) _ rfl (by (with_reducible repeat first | refine kn_ ?_ _ | refine kd_ ?_ | refine ka_ ?_ _); refine blk_put (cs := #[.int .i64 0, .int .i64 0]) ?_ 1 _ rfl; (with_reducible repeat first | refine kn_ ?_ _ | refine kd_ ?_ | refine ka_ ?_ _); refine blk_put (cs := #[.int .i64 0, .int .i64 0]) ?_ 0 _ rfl; (with_reducible repeat first | refine kn_ ?_ _ | refine kd_ ?_ | refine ka_ ?_ _); exact BKg1.out) Try.underlying24 rfl (by kernel_rfl)) rfl ?_
        exact ⟨rfl, (by repeat first | (with_reducible first | exact HB.out | apply ba_ | apply bn_ | apply bd_ | refine below_set ?_ GEg1.out) | exact HB.out)⟩
theorem fracI_e (a : Int) {a' : Int} (e : a' = a) (b : Int) (ha : a.natAbs ≤ 4000000000000000000) (hb : b.natAbs ≤ 4000000000000000000) (h0 : b ≠ 0) (w : World) :
    Calls Try.prog 56 #[.int .i64 a', .int .i64 b] w fun e w' => e = .returned (.tuple #[.agg #[.int .i64 (fracA a b).1, .int .i64 (fracA a b).2.1], .bool (fracA a b).2.2]) ∧ Below w.heap.size w w' := by
  subst e
  exact fracI_c _ b ha hb h0 w
set_option maxHeartbeats 8000000 in
set_option maxRecDepth 100000 in
theorem multI_c (n d n1 d1 : Int) (w : World) :
    Calls Try.prog 107 #[.agg #[.int .i64 n, .int .i64 d], .agg #[.int .i64 n1, .int .i64 d1]] w fun e w' => e = .returned (.tuple #[.agg #[.int .i64 (multA n d n1 d1).1, .int .i64 (multA n d n1 d1).2.1], .bool (multA n d n1 d1).2.2]) ∧ Below w.heap.size w w' := by
  have HB := am_ (Below.refl w.heap.size w)
  obtain ⟨ka, ha⟩ := roundsOf (implIsF_ev n d)
  obtain ⟨kb, hbb⟩ := roundsOf (implIsF_ev n1 d1)
  have g0_ := ha
  by_cases c0_ : okF n d
  · rw [decide_eq_true c0_] at g0_
    have G1 := am_ g0_
    clear g0_
    have g1_ := hbb
    by_cases c1_ : okF n1 d1
    · rw [decide_eq_true c1_] at g1_
      have G2 := am_ g1_
      clear g1_
      have hm := okF_mul c0_ c1_
      have hfin : multA n d n1 d1 = fracA (n * n1) (d * d1) := by unfold multA; rw [if_pos ⟨c0_, c1_⟩]
      rw [hfin]
      obtain ⟨P, hP⟩ : ∃ P, P = n * n1 := ⟨_, rfl⟩
      obtain ⟨Q, hQ⟩ : ∃ Q, Q = d * d1 := ⟨_, rfl⟩
      rw [← hP, ← hQ] at hm ⊢
      have hw1 : IntKind.i64.wrap (n * n1) = P := by rw [← hP]; exact IntWalk.i64_in _ (by omega)
      have hw2 : IntKind.i64.wrap (d * d1) = Q := by rw [← hQ]; exact IntWalk.i64_in _ (by omega)
      obtain ⟨FR, hFR⟩ : ∃ F, F = fracA P Q := ⟨_, rfl⟩
      have HFR := am_ hFR.symm
      rw [← hFR]
      obtain ⟨n2, d2, o2⟩ := FR
      clear hFR
      have HPA := am_ (show P.natAbs ≤ 4000000000000000000 ∧ Q.natAbs ≤ 4000000000000000000 ∧ Q ≠ 0 from by omega)
      clear hfin hP hQ c0_ c1_
      go_enter Try.func107, Try.ntmps107
      go_wp2_with (first
        | (((with_reducible refine gate_dst (N := 2) rfl ?_); refine box_event ?hg (N := 2) ?hd (cs := #[.int .i64 n,.int .i64 d]) (t := 24) ?hr ?_; (case hd => rfl); (case hg => rfl); (case hr => first | (go_simp; done) | (go_simp; rfl))); intro g1 hg w_g1 hbox hb; have n_ := am_ (below_step (by repeat first | (with_reducible first | exact HB.out | apply ba_ | apply bn_ | apply bd_) | exact HB.out) hb); have BKg1 := am_ hbox; have GEg1 := am_ (show w.heap.size ≤ g1 from by rw [hg]; exact below_size (by repeat first | (with_reducible first | exact HB.out | apply ba_ | apply bn_ | apply bd_) | exact HB.out)); clear HB ; have HB := n_; clear n_ hb hbox hg)
        | (((with_reducible refine gate_dst (N := 3) rfl ?_); refine box_event ?hg (N := 3) ?hd (cs := #[.int .i64 n1,.int .i64 d1]) (t := 24) ?hr ?_; (case hd => rfl); (case hg => rfl); (case hr => first | (go_simp; done) | (go_simp; rfl))); intro g2 hg w_g2 hbox hb; have n_ := am_ (below_step (by repeat first | (with_reducible first | exact HB.out | apply ba_ | apply bn_ | apply bd_ | refine below_set ?_ GEg1.out) | exact HB.out) hb); have m_g1 := am_ (blk_below (blk_below BKg1.out (by repeat first | exact Below.refl _ _ | apply ba_ | apply bn_ | apply bd_)) hb); have NEg1_g2 := am_ (show g1 ≠ g2 from by rw [hg]; exact Nat.ne_of_lt (blk_lt (blk_below BKg1.out (by repeat first | exact Below.refl _ _ | apply ba_ | apply bn_ | apply bd_)))); have NEg2_g1 := am_ (Ne.symm NEg1_g2.out); have BKg2 := am_ hbox; have GEg2 := am_ (show w.heap.size ≤ g2 from by rw [hg]; exact below_size (by repeat first | (with_reducible first | exact HB.out | apply ba_ | apply bn_ | apply bd_ | refine below_set ?_ GEg1.out) | exact HB.out)); clear HB BKg1; have HB := n_; clear n_ hb hbox hg; have BKg1 := m_g1; clear m_g1)
        | ((((with_reducible refine gate_dst (N := 4) rfl ?_); refine box_event ?hg (N := 4) ?hd (cs := #[.int .i64 0,.int .i64 0]) (t := 24) ?hr ?_; (case hd => rfl); (case hg => rfl); (case hr => first | (go_simp; done) | (go_simp; rfl))); intro g3 hg w_g3 hbox hb; have n_ := am_ (below_step (by repeat first | (with_reducible first | exact HB.out | apply ba_ | apply bn_ | apply bd_ | refine below_set ?_ GEg1.out | refine below_set ?_ GEg2.out) | exact HB.out) hb); have m_g1 := am_ (blk_below (blk_below BKg1.out (by repeat first | exact Below.refl _ _ | apply ba_ | apply bn_ | apply bd_)) hb); have NEg1_g3 := am_ (show g1 ≠ g3 from by rw [hg]; exact Nat.ne_of_lt (blk_lt (blk_below BKg1.out (by repeat first | exact Below.refl _ _ | apply ba_ | apply bn_ | apply bd_)))); have NEg3_g1 := am_ (Ne.symm NEg1_g3.out); have m_g2 := am_ (blk_below (blk_below BKg2.out (by repeat first | exact Below.refl _ _ | apply ba_ | apply bn_ | apply bd_)) hb); have NEg2_g3 := am_ (show g2 ≠ g3 from by rw [hg]; exact Nat.ne_of_lt (blk_lt (blk_below BKg2.out (by repeat first | exact Below.refl _ _ | apply ba_ | apply bn_ | apply bd_)))); have NEg3_g2 := am_ (Ne.symm NEg2_g3.out); have BKg3 := am_ hbox; have GEg3 := am_ (show w.heap.size ≤ g3 from by rw [hg]; exact below_size (by repeat first | (with_reducible first | exact HB.out | apply ba_ | apply bn_ | apply bd_ | refine below_set ?_ GEg1.out | refine below_set ?_ GEg2.out) | exact HB.out)); clear HB BKg1 BKg2; have HB := n_; clear n_ hb hbox hg; have BKg1 := m_g1; clear m_g1; have BKg2 := m_g2; clear m_g2); have yg1_0 : w_g3.cell? ⟨g1, 0, none⟩ = some (.int .i64 n) := (blk_cell BKg1.out 0).trans rfl; have fg1_0 := blk_frozen BKg1.out 0; have yg1_1 : w_g3.cell? ⟨g1, 1, none⟩ = some (.int .i64 d) := (blk_cell BKg1.out 1).trans rfl; have fg1_1 := blk_frozen BKg1.out 1)
        )
      clear yg1_0 fg1_0 yg1_1 fg1_1
      refine (impl_isFraction.calls ka n d true _ G1.out).mono ?_
      rintro e w1_ ⟨rfl, hb⟩
      replace BKg1 := am_ (blk_below (blk_below BKg1.out (by repeat first | exact Below.refl _ _ | apply ba_ | apply bn_ | apply bd_)) hb); replace BKg2 := am_ (blk_below (blk_below BKg2.out (by repeat first | exact Below.refl _ _ | apply ba_ | apply bn_ | apply bd_)) hb); replace BKg3 := am_ (blk_below (blk_below BKg3.out (by repeat first | exact Below.refl _ _ | apply ba_ | apply bn_ | apply bd_)) hb); replace HB := am_ (below_step (by repeat first | (with_reducible first | exact HB.out | apply ba_ | apply bn_ | apply bd_) | exact HB.out) hb); clear hb
      have yg2_0 : w1_.cell? ⟨g2, 0, none⟩ = some (.int .i64 n1) := (blk_cell BKg2.out 0).trans rfl; have fg2_0 := blk_frozen BKg2.out 0; have yg2_1 : w1_.cell? ⟨g2, 1, none⟩ = some (.int .i64 d1) := (blk_cell BKg2.out 1).trans rfl; have fg2_1 := blk_frozen BKg2.out 1
      go_wp2_with fail
      clear yg2_0 fg2_0 yg2_1 fg2_1
      refine (impl_isFraction.calls kb n1 d1 true _ G2.out).mono ?_
      rintro e w2_ ⟨rfl, hb⟩
      replace BKg1 := am_ (blk_below (blk_below BKg1.out (by repeat first | exact Below.refl _ _ | apply ba_ | apply bn_ | apply bd_)) hb); replace BKg2 := am_ (blk_below (blk_below BKg2.out (by repeat first | exact Below.refl _ _ | apply ba_ | apply bn_ | apply bd_)) hb); replace BKg3 := am_ (blk_below (blk_below BKg3.out (by repeat first | exact Below.refl _ _ | apply ba_ | apply bn_ | apply bd_)) hb); replace HB := am_ (below_step (by repeat first | (with_reducible first | exact HB.out | apply ba_ | apply bn_ | apply bd_) | exact HB.out) hb); clear hb
      have yg1_0 : w2_.cell? ⟨g1, 0, none⟩ = some (.int .i64 n) := (blk_cell BKg1.out 0).trans rfl; have fg1_0 := blk_frozen BKg1.out 0; have yg1_1 : w2_.cell? ⟨g1, 1, none⟩ = some (.int .i64 d) := (blk_cell BKg1.out 1).trans rfl; have fg1_1 := blk_frozen BKg1.out 1
      have yg2_0 : w2_.cell? ⟨g2, 0, none⟩ = some (.int .i64 n1) := (blk_cell BKg2.out 0).trans rfl; have fg2_0 := blk_frozen BKg2.out 0; have yg2_1 : w2_.cell? ⟨g2, 1, none⟩ = some (.int .i64 d1) := (blk_cell BKg2.out 1).trans rfl; have fg2_1 := blk_frozen BKg2.out 1
      go_wp2_with fail
      clear yg1_0 fg1_0 yg1_1 fg1_1
      clear yg2_0 fg2_0 yg2_1 fg2_1
      refine (fracI_c P Q HPA.out.1 HPA.out.2.1 HPA.out.2.2 _).mono ?_
      rw [HFR.out]
      rintro e w3_ ⟨rfl, hb⟩
      replace BKg1 := am_ (blk_below (blk_below BKg1.out (by repeat first | exact Below.refl _ _ | apply ba_ | apply bn_ | apply bd_)) hb); replace BKg2 := am_ (blk_below (blk_below BKg2.out (by repeat first | exact Below.refl _ _ | apply ba_ | apply bn_ | apply bd_)) hb); replace BKg3 := am_ (blk_below (blk_below BKg3.out (by repeat first | exact Below.refl _ _ | apply ba_ | apply bn_ | apply bd_)) hb); replace HB := am_ (below_step (by repeat first | (with_reducible first | exact HB.out | apply ba_ | apply bn_ | apply bd_) | exact HB.out) hb); clear hb
      have yg3_0 : w3_.cell? ⟨g3, 0, none⟩ = some (.int .i64 0) := (blk_cell BKg3.out 0).trans rfl; have fg3_0 := blk_frozen BKg3.out 0; have yg3_1 : w3_.cell? ⟨g3, 1, none⟩ = some (.int .i64 0) := (blk_cell BKg3.out 1).trans rfl; have fg3_1 := blk_frozen BKg3.out 1
      go_wp2
      refine bodyPost_ret (results_ct rfl _ _ g3 24 #[.int .i64 n2, .int .i64 d2] (0, 0) _ rfl (by (with_reducible repeat first | refine kn_ ?_ _ | refine kd_ ?_ | refine ka_ ?_ _); refine blk_put (cs := #[.int .i64 n2, .int .i64 0]) ?_ 1 _ rfl; (with_reducible repeat first | refine kn_ ?_ _ | refine kd_ ?_ | refine ka_ ?_ _); refine blk_put (cs := #[.int .i64 0, .int .i64 0]) ?_ 0 _ rfl; (with_reducible repeat first | refine kn_ ?_ _ | refine kd_ ?_ | refine ka_ ?_ _); exact BKg3.out) Try.underlying24 rfl (by kernel_rfl)) rfl ?_
      exact ⟨rfl, (by repeat first | (with_reducible first | exact HB.out | apply ba_ | apply bn_ | apply bd_ | refine below_set ?_ GEg1.out | refine below_set ?_ GEg2.out | refine below_set ?_ GEg3.out) | exact HB.out)⟩
    · rw [decide_eq_false c1_] at g1_
      have G2 := am_ g1_
      clear g1_
      have hfin : multA n d n1 d1 = (0, 0, false) := by unfold multA; rw [if_neg (fun v => c1_ v.2)]
      rw [hfin]
      clear hfin
      go_enter Try.func107, Try.ntmps107
      go_wp2_with (first
        | (((with_reducible refine gate_dst (N := 2) rfl ?_); refine box_event ?hg (N := 2) ?hd (cs := #[.int .i64 n,.int .i64 d]) (t := 24) ?hr ?_; (case hd => rfl); (case hg => rfl); (case hr => first | (go_simp; done) | (go_simp; rfl))); intro g1 hg w_g1 hbox hb; have n_ := am_ (below_step (by repeat first | (with_reducible first | exact HB.out | apply ba_ | apply bn_ | apply bd_) | exact HB.out) hb); have BKg1 := am_ hbox; have GEg1 := am_ (show w.heap.size ≤ g1 from by rw [hg]; exact below_size (by repeat first | (with_reducible first | exact HB.out | apply ba_ | apply bn_ | apply bd_) | exact HB.out)); clear HB ; have HB := n_; clear n_ hb hbox hg)
        | (((with_reducible refine gate_dst (N := 3) rfl ?_); refine box_event ?hg (N := 3) ?hd (cs := #[.int .i64 n1,.int .i64 d1]) (t := 24) ?hr ?_; (case hd => rfl); (case hg => rfl); (case hr => first | (go_simp; done) | (go_simp; rfl))); intro g2 hg w_g2 hbox hb; have n_ := am_ (below_step (by repeat first | (with_reducible first | exact HB.out | apply ba_ | apply bn_ | apply bd_ | refine below_set ?_ GEg1.out) | exact HB.out) hb); have m_g1 := am_ (blk_below (blk_below BKg1.out (by repeat first | exact Below.refl _ _ | apply ba_ | apply bn_ | apply bd_)) hb); have NEg1_g2 := am_ (show g1 ≠ g2 from by rw [hg]; exact Nat.ne_of_lt (blk_lt (blk_below BKg1.out (by repeat first | exact Below.refl _ _ | apply ba_ | apply bn_ | apply bd_)))); have NEg2_g1 := am_ (Ne.symm NEg1_g2.out); have BKg2 := am_ hbox; have GEg2 := am_ (show w.heap.size ≤ g2 from by rw [hg]; exact below_size (by repeat first | (with_reducible first | exact HB.out | apply ba_ | apply bn_ | apply bd_ | refine below_set ?_ GEg1.out) | exact HB.out)); clear HB BKg1; have HB := n_; clear n_ hb hbox hg; have BKg1 := m_g1; clear m_g1)
        | ((((with_reducible refine gate_dst (N := 4) rfl ?_); refine box_event ?hg (N := 4) ?hd (cs := #[.int .i64 0,.int .i64 0]) (t := 24) ?hr ?_; (case hd => rfl); (case hg => rfl); (case hr => first | (go_simp; done) | (go_simp; rfl))); intro g3 hg w_g3 hbox hb; have n_ := am_ (below_step (by repeat first | (with_reducible first | exact HB.out | apply ba_ | apply bn_ | apply bd_ | refine below_set ?_ GEg1.out | refine below_set ?_ GEg2.out) | exact HB.out) hb); have m_g1 := am_ (blk_below (blk_below BKg1.out (by repeat first | exact Below.refl _ _ | apply ba_ | apply bn_ | apply bd_)) hb); have NEg1_g3 := am_ (show g1 ≠ g3 from by rw [hg]; exact Nat.ne_of_lt (blk_lt (blk_below BKg1.out (by repeat first | exact Below.refl _ _ | apply ba_ | apply bn_ | apply bd_)))); have NEg3_g1 := am_ (Ne.symm NEg1_g3.out); have m_g2 := am_ (blk_below (blk_below BKg2.out (by repeat first | exact Below.refl _ _ | apply ba_ | apply bn_ | apply bd_)) hb); have NEg2_g3 := am_ (show g2 ≠ g3 from by rw [hg]; exact Nat.ne_of_lt (blk_lt (blk_below BKg2.out (by repeat first | exact Below.refl _ _ | apply ba_ | apply bn_ | apply bd_)))); have NEg3_g2 := am_ (Ne.symm NEg2_g3.out); have BKg3 := am_ hbox; have GEg3 := am_ (show w.heap.size ≤ g3 from by rw [hg]; exact below_size (by repeat first | (with_reducible first | exact HB.out | apply ba_ | apply bn_ | apply bd_ | refine below_set ?_ GEg1.out | refine below_set ?_ GEg2.out) | exact HB.out)); clear HB BKg1 BKg2; have HB := n_; clear n_ hb hbox hg; have BKg1 := m_g1; clear m_g1; have BKg2 := m_g2; clear m_g2); have yg1_0 : w_g3.cell? ⟨g1, 0, none⟩ = some (.int .i64 n) := (blk_cell BKg1.out 0).trans rfl; have fg1_0 := blk_frozen BKg1.out 0; have yg1_1 : w_g3.cell? ⟨g1, 1, none⟩ = some (.int .i64 d) := (blk_cell BKg1.out 1).trans rfl; have fg1_1 := blk_frozen BKg1.out 1)
        )
      clear yg1_0 fg1_0 yg1_1 fg1_1
      refine (impl_isFraction.calls ka n d true _ G1.out).mono ?_
      rintro e w1_ ⟨rfl, hb⟩
      replace BKg1 := am_ (blk_below (blk_below BKg1.out (by repeat first | exact Below.refl _ _ | apply ba_ | apply bn_ | apply bd_)) hb); replace BKg2 := am_ (blk_below (blk_below BKg2.out (by repeat first | exact Below.refl _ _ | apply ba_ | apply bn_ | apply bd_)) hb); replace BKg3 := am_ (blk_below (blk_below BKg3.out (by repeat first | exact Below.refl _ _ | apply ba_ | apply bn_ | apply bd_)) hb); replace HB := am_ (below_step (by repeat first | (with_reducible first | exact HB.out | apply ba_ | apply bn_ | apply bd_) | exact HB.out) hb); clear hb
      have yg2_0 : w1_.cell? ⟨g2, 0, none⟩ = some (.int .i64 n1) := (blk_cell BKg2.out 0).trans rfl; have fg2_0 := blk_frozen BKg2.out 0; have yg2_1 : w1_.cell? ⟨g2, 1, none⟩ = some (.int .i64 d1) := (blk_cell BKg2.out 1).trans rfl; have fg2_1 := blk_frozen BKg2.out 1
      go_wp2_with fail
      clear yg2_0 fg2_0 yg2_1 fg2_1
      refine (impl_isFraction.calls kb n1 d1 false _ G2.out).mono ?_
      rintro e w2_ ⟨rfl, hb⟩
      replace BKg1 := am_ (blk_below (blk_below BKg1.out (by repeat first | exact Below.refl _ _ | apply ba_ | apply bn_ | apply bd_)) hb); replace BKg2 := am_ (blk_below (blk_below BKg2.out (by repeat first | exact Below.refl _ _ | apply ba_ | apply bn_ | apply bd_)) hb); replace BKg3 := am_ (blk_below (blk_below BKg3.out (by repeat first | exact Below.refl _ _ | apply ba_ | apply bn_ | apply bd_)) hb); replace HB := am_ (below_step (by repeat first | (with_reducible first | exact HB.out | apply ba_ | apply bn_ | apply bd_) | exact HB.out) hb); clear hb
      have yg3_0 : w2_.cell? ⟨g3, 0, none⟩ = some (.int .i64 0) := (blk_cell BKg3.out 0).trans rfl; have fg3_0 := blk_frozen BKg3.out 0; have yg3_1 : w2_.cell? ⟨g3, 1, none⟩ = some (.int .i64 0) := (blk_cell BKg3.out 1).trans rfl; have fg3_1 := blk_frozen BKg3.out 1
      go_wp2
      refine bodyPost_ret (results_ct rfl _ _ g3 24 #[.int .i64 0, .int .i64 0] (0, 0) _ rfl (by (with_reducible repeat first | refine kn_ ?_ _ | refine kd_ ?_ | refine ka_ ?_ _); refine blk_put (cs := #[.int .i64 0, .int .i64 0]) ?_ 1 _ rfl; (with_reducible repeat first | refine kn_ ?_ _ | refine kd_ ?_ | refine ka_ ?_ _); refine blk_put (cs := #[.int .i64 0, .int .i64 0]) ?_ 0 _ rfl; (with_reducible repeat first | refine kn_ ?_ _ | refine kd_ ?_ | refine ka_ ?_ _); exact BKg3.out) Try.underlying24 rfl (by kernel_rfl)) rfl ?_
      exact ⟨rfl, (by repeat first | (with_reducible first | exact HB.out | apply ba_ | apply bn_ | apply bd_ | refine below_set ?_ GEg1.out | refine below_set ?_ GEg2.out | refine below_set ?_ GEg3.out) | exact HB.out)⟩
  · rw [decide_eq_false c0_] at g0_
    have G1 := am_ g0_
    clear g0_
    have hfin : multA n d n1 d1 = (0, 0, false) := by unfold multA; rw [if_neg (fun v => c0_ v.1)]
    rw [hfin]
    clear hfin
    go_enter Try.func107, Try.ntmps107
    go_wp2_with (first
      | (((with_reducible refine gate_dst (N := 2) rfl ?_); refine box_event ?hg (N := 2) ?hd (cs := #[.int .i64 n,.int .i64 d]) (t := 24) ?hr ?_; (case hd => rfl); (case hg => rfl); (case hr => first | (go_simp; done) | (go_simp; rfl))); intro g1 hg w_g1 hbox hb; have n_ := am_ (below_step (by repeat first | (with_reducible first | exact HB.out | apply ba_ | apply bn_ | apply bd_) | exact HB.out) hb); have BKg1 := am_ hbox; have GEg1 := am_ (show w.heap.size ≤ g1 from by rw [hg]; exact below_size (by repeat first | (with_reducible first | exact HB.out | apply ba_ | apply bn_ | apply bd_) | exact HB.out)); clear HB ; have HB := n_; clear n_ hb hbox hg)
      | (((with_reducible refine gate_dst (N := 3) rfl ?_); refine box_event ?hg (N := 3) ?hd (cs := #[.int .i64 n1,.int .i64 d1]) (t := 24) ?hr ?_; (case hd => rfl); (case hg => rfl); (case hr => first | (go_simp; done) | (go_simp; rfl))); intro g2 hg w_g2 hbox hb; have n_ := am_ (below_step (by repeat first | (with_reducible first | exact HB.out | apply ba_ | apply bn_ | apply bd_ | refine below_set ?_ GEg1.out) | exact HB.out) hb); have m_g1 := am_ (blk_below (blk_below BKg1.out (by repeat first | exact Below.refl _ _ | apply ba_ | apply bn_ | apply bd_)) hb); have NEg1_g2 := am_ (show g1 ≠ g2 from by rw [hg]; exact Nat.ne_of_lt (blk_lt (blk_below BKg1.out (by repeat first | exact Below.refl _ _ | apply ba_ | apply bn_ | apply bd_)))); have NEg2_g1 := am_ (Ne.symm NEg1_g2.out); have BKg2 := am_ hbox; have GEg2 := am_ (show w.heap.size ≤ g2 from by rw [hg]; exact below_size (by repeat first | (with_reducible first | exact HB.out | apply ba_ | apply bn_ | apply bd_ | refine below_set ?_ GEg1.out) | exact HB.out)); clear HB BKg1; have HB := n_; clear n_ hb hbox hg; have BKg1 := m_g1; clear m_g1)
      | ((((with_reducible refine gate_dst (N := 4) rfl ?_); refine box_event ?hg (N := 4) ?hd (cs := #[.int .i64 0,.int .i64 0]) (t := 24) ?hr ?_; (case hd => rfl); (case hg => rfl); (case hr => first | (go_simp; done) | (go_simp; rfl))); intro g3 hg w_g3 hbox hb; have n_ := am_ (below_step (by repeat first | (with_reducible first | exact HB.out | apply ba_ | apply bn_ | apply bd_ | refine below_set ?_ GEg1.out | refine below_set ?_ GEg2.out) | exact HB.out) hb); have m_g1 := am_ (blk_below (blk_below BKg1.out (by repeat first | exact Below.refl _ _ | apply ba_ | apply bn_ | apply bd_)) hb); have NEg1_g3 := am_ (show g1 ≠ g3 from by rw [hg]; exact Nat.ne_of_lt (blk_lt (blk_below BKg1.out (by repeat first | exact Below.refl _ _ | apply ba_ | apply bn_ | apply bd_)))); have NEg3_g1 := am_ (Ne.symm NEg1_g3.out); have m_g2 := am_ (blk_below (blk_below BKg2.out (by repeat first | exact Below.refl _ _ | apply ba_ | apply bn_ | apply bd_)) hb); have NEg2_g3 := am_ (show g2 ≠ g3 from by rw [hg]; exact Nat.ne_of_lt (blk_lt (blk_below BKg2.out (by repeat first | exact Below.refl _ _ | apply ba_ | apply bn_ | apply bd_)))); have NEg3_g2 := am_ (Ne.symm NEg2_g3.out); have BKg3 := am_ hbox; have GEg3 := am_ (show w.heap.size ≤ g3 from by rw [hg]; exact below_size (by repeat first | (with_reducible first | exact HB.out | apply ba_ | apply bn_ | apply bd_ | refine below_set ?_ GEg1.out | refine below_set ?_ GEg2.out) | exact HB.out)); clear HB BKg1 BKg2; have HB := n_; clear n_ hb hbox hg; have BKg1 := m_g1; clear m_g1; have BKg2 := m_g2; clear m_g2); have yg1_0 : w_g3.cell? ⟨g1, 0, none⟩ = some (.int .i64 n) := (blk_cell BKg1.out 0).trans rfl; have fg1_0 := blk_frozen BKg1.out 0; have yg1_1 : w_g3.cell? ⟨g1, 1, none⟩ = some (.int .i64 d) := (blk_cell BKg1.out 1).trans rfl; have fg1_1 := blk_frozen BKg1.out 1)
      )
    clear yg1_0 fg1_0 yg1_1 fg1_1
    refine (impl_isFraction.calls ka n d false _ G1.out).mono ?_
    rintro e w1_ ⟨rfl, hb⟩
    replace BKg1 := am_ (blk_below (blk_below BKg1.out (by repeat first | exact Below.refl _ _ | apply ba_ | apply bn_ | apply bd_)) hb); replace BKg2 := am_ (blk_below (blk_below BKg2.out (by repeat first | exact Below.refl _ _ | apply ba_ | apply bn_ | apply bd_)) hb); replace BKg3 := am_ (blk_below (blk_below BKg3.out (by repeat first | exact Below.refl _ _ | apply ba_ | apply bn_ | apply bd_)) hb); replace HB := am_ (below_step (by repeat first | (with_reducible first | exact HB.out | apply ba_ | apply bn_ | apply bd_) | exact HB.out) hb); clear hb
    have yg3_0 : w1_.cell? ⟨g3, 0, none⟩ = some (.int .i64 0) := (blk_cell BKg3.out 0).trans rfl; have fg3_0 := blk_frozen BKg3.out 0; have yg3_1 : w1_.cell? ⟨g3, 1, none⟩ = some (.int .i64 0) := (blk_cell BKg3.out 1).trans rfl; have fg3_1 := blk_frozen BKg3.out 1
    go_wp2
    refine bodyPost_ret (results_ct rfl _ _ g3 24 #[.int .i64 0, .int .i64 0] (0, 0) _ rfl (by (with_reducible repeat first | refine kn_ ?_ _ | refine kd_ ?_ | refine ka_ ?_ _); refine blk_put (cs := #[.int .i64 0, .int .i64 0]) ?_ 1 _ rfl; (with_reducible repeat first | refine kn_ ?_ _ | refine kd_ ?_ | refine ka_ ?_ _); refine blk_put (cs := #[.int .i64 0, .int .i64 0]) ?_ 0 _ rfl; (with_reducible repeat first | refine kn_ ?_ _ | refine kd_ ?_ | refine ka_ ?_ _); exact BKg3.out) Try.underlying24 rfl (by kernel_rfl)) rfl ?_
    exact ⟨rfl, (by repeat first | (with_reducible first | exact HB.out | apply ba_ | apply bn_ | apply bd_ | refine below_set ?_ GEg1.out | refine below_set ?_ GEg2.out | refine below_set ?_ GEg3.out) | exact HB.out)⟩
theorem ylI (y : Int) : 365 ≤ ylA y ∧ ylA y ≤ 366 := by have := yl_eq y; have := leap_bd y; omega
set_option maxHeartbeats 8000000 in
set_option maxRecDepth 100000 in
theorem dateI_c (day : Int) (h : 0 ≤ day ∧ day ≤ 36524) (w : World) :
    Calls Try.prog 135 #[.int .i64 day] w fun e w' => e = .returned (.agg #[.int .i64 (dateC day).1, .int .i64 (dateC day).2.1, .int .i64 (dateC day).2.2]) ∧ Below w.heap.size w w' := by
  have HB := am_ (Below.refl w.heap.size w)
  have HD := am_ (show day = dbyA 2000 + day from by unfold dbyA; omega)
  have HI := am_ h
  go_enter Try.func135, Try.ntmps135
  go_wp2_with (first
    | (((with_reducible refine gate_dst (N := 2) rfl ?_); refine box_event ?hg (N := 2) ?hd (cs := #[.int .i64 0, .int .i64 0, .int .i64 0]) (t := 125) ?hr ?_; (case hd => rfl); (case hg => rfl); (case hr => first | (go_simp; done) | (go_simp; rfl))); intro g1 hg w2 hbox hb; have n_ := am_ (below_step (by repeat first | (with_reducible first | exact HB.out | apply ba_ | apply bn_ | apply bd_) | exact HB.out) hb); have BK1 := am_ hbox; have GE1 := am_ (show w.heap.size ≤ g1 from by rw [hg]; exact below_size (by repeat first | (with_reducible first | exact HB.out | apply ba_ | apply bn_ | apply bd_) | exact HB.out)); clear HB; have HB := n_; clear n_ hb hbox hg)
    | (((with_reducible refine gate_dst (N := 3) rfl ?_); refine box_event ?hg (N := 3) ?hd (cs := #[.int .i64 0, .int .i64 0, .int .i64 0]) (t := 125) ?hr ?_; (case hd => rfl); (case hg => rfl); (case hr => first | (go_simp; done) | (go_simp; rfl))); intro g2 hg w3 hbox hb; have n_ := am_ (below_step (by repeat first | (with_reducible first | exact HB.out | apply ba_ | apply bn_ | apply bd_) | exact HB.out) hb); have m_ := am_ (blk_below (blk_below BK1.out (by repeat first | exact Below.refl _ _ | apply ba_ | apply bn_ | apply bd_)) hb); have BK2 := am_ hbox; have GE2 := am_ (show w.heap.size ≤ g2 from by rw [hg]; exact below_size (by repeat first | (with_reducible first | exact HB.out | apply ba_ | apply bn_ | apply bd_) | exact HB.out)); have NE := am_ (show g1 ≠ g2 from by rw [hg]; exact Nat.ne_of_lt (blk_lt (blk_below BK1.out (by repeat first | exact Below.refl _ _ | apply ba_ | apply bn_ | apply bd_)))); clear HB BK1; have HB := n_; have BK1 := m_; clear n_ m_ hb hbox hg; have y0 : w3.cell? ⟨g2, 0, none⟩ = some (.int .i64 0) := (blk_cell BK2.out 0).trans rfl; have y1 : w3.cell? ⟨g2, 1, none⟩ = some (.int .i64 0) := (blk_cell BK2.out 1).trans rfl; have y2 : w3.cell? ⟨g2, 2, none⟩ = some (.int .i64 0) := (blk_cell BK2.out 2).trans rfl; have f0 := blk_frozen BK2.out 0; have f1 := blk_frozen BK2.out 1; have f2 := blk_frozen BK2.out 2))
  go_loopw [0] (fun v0 wr => ∃ (x y : Int), v0 = .int .i64 x ∧ Aside0 (2000 ≤ y ∧ y ≤ 2099 ∧ 0 ≤ x ∧ x ≤ 36524 ∧ day = dbyA y + x) ∧ Aside0 (wr.heap[g1]? = some (.cells #[.int .i64 0, .int .i64 0, .int .i64 0] 125 (0, 0))) ∧ Aside0 (wr.heap[g2]? = some (.cells #[.int .i64 y, .int .i64 1, .int .i64 0] 125 (0, 0))) ∧ Aside0 (Below w.heap.size w wr)) (fun v0 _ => (intOf v0).toNat)
  case atStart => exact ⟨day, 2000, rfl, ⟨by omega, by omega, h.1, h.2, HD.out⟩, ⟨(by repeat (with_reducible first | exact BK1.out | refine kn_ ?_ _ | refine kd_ ?_ | refine ka_ ?_ _ | refine kf_ ?_ NE.out _))⟩, ⟨(by (with_reducible repeat first | refine kn_ ?_ _ | refine kd_ ?_ | refine ka_ ?_ _); refine blk_put (cs := #[.int .i64 2000, .int .i64 1, .int .i64 0]) ?_ 2 _ rfl; (with_reducible repeat first | refine kn_ ?_ _ | refine kd_ ?_ | refine ka_ ?_ _); refine blk_put (cs := #[.int .i64 2000, .int .i64 0, .int .i64 0]) ?_ 1 _ rfl; (with_reducible repeat first | refine kn_ ?_ _ | refine kd_ ?_ | refine ka_ ?_ _); refine blk_put (cs := #[.int .i64 0, .int .i64 0, .int .i64 0]) ?_ 0 _ rfl; (with_reducible repeat first | refine kn_ ?_ _ | refine kd_ ?_ | refine ka_ ?_ _); exact BK2.out)⟩, ⟨(by repeat first | (with_reducible first | exact HB.out | apply ba_ | apply bn_ | apply bd_ | refine below_set ?_ GE1.out | refine below_set ?_ GE2.out) | exact HB.out)⟩⟩
  case round =>
    clear HB BK1 BK2 y0 y1 y2 f0 f1 f2
    obtain ⟨x, y, rfl, HX, BK1, BK2, HB⟩ := hrel
    obtain ⟨hy1, hy2, hx1, hx2, hxd⟩ := HX.out
    obtain ⟨L, hL⟩ : ∃ L, L = ylA y := ⟨_, rfl⟩
    have hLb := ylI y
    rw [← hL] at hLb
    have HLE := am_ (show impl_daysOf.f y = some L from by rw [hL]; exact daysOf_eq y (by omega))
    have HS := am_ (show dbyA (y + 1) = dbyA y + L from by rw [hL]; exact dby_succ y)
    have y0 : wr.cell? ⟨g2, 0, none⟩ = some (.int .i64 y) := (blk_cell BK2.out 0).trans rfl
    by_cases c : L ≤ x
    · have cb : decide (L ≤ x) = true := decide_eq_true c
      have HXD := am_ hxd
      have hn : y ≠ 2099 := by
        intro q
        subst q
        have e : dbyA (2099 + 1) = 36525 := by decide
        have := HS.out
        have := HI.out
        omega
      have HN := am_ hn
      clear hn
      clear hL hxd
      go_wp2_with fail
      clear y0
      refine (impl_daysOf.calls y L _ HLE.out).mono ?_
      rintro e w4 ⟨rfl, hb0⟩
      have hb := db_ hb0
      replace BK1 := am_ (blk_below (blk_below BK1.out (by repeat first | exact Below.refl _ _ | apply ba_ | apply bn_ | apply bd_)) hb); replace BK2 := am_ (blk_below (blk_below BK2.out (by repeat first | exact Below.refl _ _ | apply ba_ | apply bn_ | apply bd_)) hb); replace HB := am_ (below_step (by repeat first | (with_reducible first | exact HB.out | apply ba_ | apply bn_ | apply bd_) | exact HB.out) hb); clear hb
      clear hb0
      have y0 : w4.cell? ⟨g2, 0, none⟩ = some (.int .i64 y) := (blk_cell BK2.out 0).trans rfl
      go_wp2_with fail
      clear y0
      refine (impl_daysOf.calls y L _ HLE.out).mono ?_
      rintro e w5 ⟨rfl, hb0⟩
      have hb := db_ hb0
      replace BK1 := am_ (blk_below (blk_below BK1.out (by repeat first | exact Below.refl _ _ | apply ba_ | apply bn_ | apply bd_)) hb); replace BK2 := am_ (blk_below (blk_below BK2.out (by repeat first | exact Below.refl _ _ | apply ba_ | apply bn_ | apply bd_)) hb); replace HB := am_ (below_step (by repeat first | (with_reducible first | exact HB.out | apply ba_ | apply bn_ | apply bd_) | exact HB.out) hb); clear hb
      clear hb0
      have y0 : w5.cell? ⟨g2, 0, none⟩ = some (.int .i64 y) := (blk_cell BK2.out 0).trans rfl
      have f0 := blk_frozen BK2.out 0
      go_wp2
      go_roundw
      case rel => exact ⟨x - L, y + 1, by go_num, ⟨by omega, by have := HN.out; omega, by omega, by omega, by have := HS.out; have := HXD.out; omega⟩, ⟨(by repeat (with_reducible first | exact BK1.out | refine kn_ ?_ _ | refine kd_ ?_ | refine ka_ ?_ _ | refine kf_ ?_ NE.out _))⟩, ⟨(by (with_reducible repeat first | refine kn_ ?_ _ | refine kd_ ?_ | refine ka_ ?_ _); refine blk_put (cs := #[.int .i64 y, .int .i64 1, .int .i64 0]) ?_ 0 _ rfl; (with_reducible repeat first | refine kn_ ?_ _ | refine kd_ ?_ | refine ka_ ?_ _); exact BK2.out)⟩, ⟨(by repeat first | (with_reducible first | exact HB.out | apply ba_ | apply bn_ | apply bd_ | refine below_set ?_ GE1.out | refine below_set ?_ GE2.out) | exact HB.out)⟩⟩
      case measure => simp [intOf]; omega
    · have cb : decide (L ≤ x) = false := decide_eq_false c
      have HLL := am_ (show ylA y = L from hL.symm)
      have HXL := am_ (show day = dbyA y + cumA y 1 + x ∧ x + cumA y 1 < L from by rw [cum_1]; omega)
      clear hL hxd
      go_wp2_with fail
      clear y0
      refine (impl_daysOf.calls y L _ HLE.out).mono ?_
      rintro e w4 ⟨rfl, hb0⟩
      have hb := db_ hb0
      replace BK1 := am_ (blk_below (blk_below BK1.out (by repeat first | exact Below.refl _ _ | apply ba_ | apply bn_ | apply bd_)) hb); replace BK2 := am_ (blk_below (blk_below BK2.out (by repeat first | exact Below.refl _ _ | apply ba_ | apply bn_ | apply bd_)) hb); replace HB := am_ (below_step (by repeat first | (with_reducible first | exact HB.out | apply ba_ | apply bn_ | apply bd_) | exact HB.out) hb); clear hb
      clear hb0
      go_wp2
      go_loopw [0] (fun v0 wr => ∃ (x m : Int), v0 = .int .i64 x ∧ Aside0 (1 ≤ m ∧ m ≤ 12 ∧ 0 ≤ x ∧ x ≤ 36524 ∧ day = dbyA y + cumA y m + x ∧ x + cumA y m < L) ∧ Aside0 (wr.heap[g1]? = some (.cells #[.int .i64 0, .int .i64 0, .int .i64 0] 125 (0, 0))) ∧ Aside0 (wr.heap[g2]? = some (.cells #[.int .i64 y, .int .i64 m, .int .i64 0] 125 (0, 0))) ∧ Aside0 (Below w.heap.size w wr)) (fun v0 _ => (intOf v0).toNat)
      case atStart => exact ⟨x, 1, rfl, ⟨by omega, by omega, hx1, hx2, HXL.out.1, HXL.out.2⟩, ⟨(by (with_reducible repeat first | refine kn_ ?_ _ | refine kd_ ?_ | refine ka_ ?_ _); exact BK1.out)⟩, ⟨(by (with_reducible repeat first | refine kn_ ?_ _ | refine kd_ ?_ | refine ka_ ?_ _); exact BK2.out)⟩, ⟨(by repeat first | (with_reducible first | exact HB.out | apply ba_ | apply bn_ | apply bd_) | exact HB.out)⟩⟩
      case round =>
        clear HB BK1 BK2 c cb
        obtain ⟨x, m, rfl, HX, BK1, BK2, HB⟩ := hrel
        obtain ⟨hm1, hm2, hx1, hx2, hxd, hxl⟩ := HX.out
        obtain ⟨D, hD⟩ : ∃ D, D = dimA y m := ⟨_, rfl⟩
        have hDb := dim_bd y m
        rw [← hD] at hDb
        have HLE := am_ (show impl_daysIn.f y m = some D from by rw [hD]; exact daysIn_eq y m (by omega))
        have HS := am_ (show cumA y (m + 1) = cumA y m + D from by rw [hD]; exact cum_succ y m ⟨hm1, hm2⟩)
        have HC := am_ (cum_bd y m)
        have HXD := am_ hxd
        have HXE := am_ hxl
        have y0 : wr.cell? ⟨g2, 0, none⟩ = some (.int .i64 y) := (blk_cell BK2.out 0).trans rfl
        have y1 : wr.cell? ⟨g2, 1, none⟩ = some (.int .i64 m) := (blk_cell BK2.out 1).trans rfl
        by_cases c : D ≤ x
        · have cb : decide (D ≤ x) = true := decide_eq_true c
          have hn : m ≠ 12 := by
            intro q
            subst q
            have e : cumA y (12 + 1) = ylA y := cum_13 y
            have := HS.out
            have := HLL.out
            omega
          have HN := am_ hn
          clear hn
          clear hD hxd hxl
          go_wp2_with fail
          clear y0 y1
          refine (impl_daysIn.calls y m D _ HLE.out).mono ?_
          rintro e w4 ⟨rfl, hb0⟩
          have hb := db_ hb0
          replace BK1 := am_ (blk_below (blk_below BK1.out (by repeat first | exact Below.refl _ _ | apply ba_ | apply bn_ | apply bd_)) hb); replace BK2 := am_ (blk_below (blk_below BK2.out (by repeat first | exact Below.refl _ _ | apply ba_ | apply bn_ | apply bd_)) hb); replace HB := am_ (below_step (by repeat first | (with_reducible first | exact HB.out | apply ba_ | apply bn_ | apply bd_) | exact HB.out) hb); clear hb
          clear hb0
          have y0 : w4.cell? ⟨g2, 0, none⟩ = some (.int .i64 y) := (blk_cell BK2.out 0).trans rfl
          have y1 : w4.cell? ⟨g2, 1, none⟩ = some (.int .i64 m) := (blk_cell BK2.out 1).trans rfl
          go_wp2_with fail
          clear y0 y1
          refine (impl_daysIn.calls y m D _ HLE.out).mono ?_
          rintro e w5 ⟨rfl, hb0⟩
          have hb := db_ hb0
          replace BK1 := am_ (blk_below (blk_below BK1.out (by repeat first | exact Below.refl _ _ | apply ba_ | apply bn_ | apply bd_)) hb); replace BK2 := am_ (blk_below (blk_below BK2.out (by repeat first | exact Below.refl _ _ | apply ba_ | apply bn_ | apply bd_)) hb); replace HB := am_ (below_step (by repeat first | (with_reducible first | exact HB.out | apply ba_ | apply bn_ | apply bd_) | exact HB.out) hb); clear hb
          clear hb0
          have y1 : w5.cell? ⟨g2, 1, none⟩ = some (.int .i64 m) := (blk_cell BK2.out 1).trans rfl
          have f1 := blk_frozen BK2.out 1
          go_wp2
          go_roundw
          case rel => exact ⟨x - D, m + 1, by go_num, ⟨by omega, by have := HN.out; omega, by omega, by omega, by have := HS.out; have := HXD.out; omega, by have := HS.out; have := HXE.out; omega⟩, ⟨(by repeat (with_reducible first | exact BK1.out | refine kn_ ?_ _ | refine kd_ ?_ | refine ka_ ?_ _ | refine kf_ ?_ NE.out _))⟩, ⟨(by (with_reducible repeat first | refine kn_ ?_ _ | refine kd_ ?_ | refine ka_ ?_ _); refine blk_put (cs := #[.int .i64 y, .int .i64 m, .int .i64 0]) ?_ 1 _ rfl; (with_reducible repeat first | refine kn_ ?_ _ | refine kd_ ?_ | refine ka_ ?_ _); exact BK2.out)⟩, ⟨(by repeat first | (with_reducible first | exact HB.out | apply ba_ | apply bn_ | apply bd_ | refine below_set ?_ GE1.out | refine below_set ?_ GE2.out) | exact HB.out)⟩⟩
          case measure => simp [intOf]; omega
        · have cb : decide (D ≤ x) = false := decide_eq_false c
          have HDT := am_ (show dateC day = (y, m, x + 1) from dateC_eq ⟨⟨hy1, hy2⟩, ⟨hm1, hm2⟩, by omega, by omega⟩)
          clear hD hxd hxl
          go_wp2_with fail
          clear y0 y1
          refine (impl_daysIn.calls y m D _ HLE.out).mono ?_
          rintro e w4 ⟨rfl, hb0⟩
          have hb := db_ hb0
          replace BK1 := am_ (blk_below (blk_below BK1.out (by repeat first | exact Below.refl _ _ | apply ba_ | apply bn_ | apply bd_)) hb); replace BK2 := am_ (blk_below (blk_below BK2.out (by repeat first | exact Below.refl _ _ | apply ba_ | apply bn_ | apply bd_)) hb); replace HB := am_ (below_step (by repeat first | (with_reducible first | exact HB.out | apply ba_ | apply bn_ | apply bd_) | exact HB.out) hb); clear hb
          clear hb0
          have y0 : w4.cell? ⟨g2, 0, none⟩ = some (.int .i64 y) := (blk_cell BK2.out 0).trans rfl
          have y1 : w4.cell? ⟨g2, 1, none⟩ = some (.int .i64 m) := (blk_cell BK2.out 1).trans rfl
          have y2 : w4.cell? ⟨g2, 2, none⟩ = some (.int .i64 0) := (blk_cell BK2.out 2).trans rfl
          have f0 := blk_frozen BK2.out 0
          have f1 := blk_frozen BK2.out 1
          have f2 := blk_frozen BK2.out 2
          have z0 : w4.cell? ⟨g1, 0, none⟩ = some (.int .i64 0) := (blk_cell BK1.out 0).trans rfl
          have z1 : w4.cell? ⟨g1, 1, none⟩ = some (.int .i64 0) := (blk_cell BK1.out 1).trans rfl
          have z2 : w4.cell? ⟨g1, 2, none⟩ = some (.int .i64 0) := (blk_cell BK1.out 2).trans rfl
          have e0 := blk_frozen BK1.out 0
          have e1 := blk_frozen BK1.out 1
          have e2 := blk_frozen BK1.out 2
          have hn1 := NE.out
          have hn2 := Ne.symm NE.out
          go_wp2
          refine bodyPost_ret (results_cell_row rfl _ _ g1 125 #[.int .i64 y, .int .i64 m, .int .i64 (x + 1)] (0, 0) _ rfl (by (with_reducible repeat first | refine kn_ ?_ _ | refine kd_ ?_ | refine ka_ ?_ _); refine blk_put (cs := #[.int .i64 y, .int .i64 m, .int .i64 0]) ?_ 2 _ rfl; (with_reducible repeat first | refine kn_ ?_ _ | refine kd_ ?_ | refine ka_ ?_ _); refine blk_put (cs := #[.int .i64 y, .int .i64 0, .int .i64 0]) ?_ 1 _ rfl; (with_reducible repeat first | refine kn_ ?_ _ | refine kd_ ?_ | refine ka_ ?_ _); refine blk_put (cs := #[.int .i64 0, .int .i64 0, .int .i64 0]) ?_ 0 _ rfl; (with_reducible repeat first | refine kn_ ?_ _ | refine kd_ ?_ | refine ka_ ?_ _ | refine kf_ ?_ NE.out _); exact BK1.out) Try.underlying125 rfl (by kernel_rfl)) rfl ?_
          exact ⟨by rw [HDT.out], (by repeat first | (with_reducible first | exact HB.out | apply ba_ | apply bn_ | apply bd_ | refine below_set ?_ GE1.out | refine below_set ?_ GE2.out) | exact HB.out)⟩
set_option maxHeartbeats 8000000 in
set_option maxRecDepth 100000 in
theorem countI_c (a b c : Int) (hv : validC a b c) (w : World) :
    Calls Try.prog 126 #[.int .i64 a, .int .i64 b, .int .i64 c] w fun e w' => e = .returned (.tuple #[.agg #[.int .i64 (countA a b c).1, .int .i64 (countA a b c).2.1], .bool (countA a b c).2.2]) ∧ Below w.heap.size w w' := by
  have HB := am_ (Below.refl w.heap.size w)
  obtain ⟨ha, hb, hab, hc⟩ := hv
  have ht := thirty_bd a b ha hb hab
  have hnb := num_bd (b - a).toNat a
  obtain ⟨FR, hFR⟩ : ∃ F, F = countA a b c := ⟨_, rfl⟩
  rw [← hFR]
  unfold countA at hFR
  by_cases c1 : c = 1
  · subst c1
    rw [if_pos rfl] at hFR
    obtain ⟨n, d, o⟩ := FR
    have HK := am_ (show fracA (b - a) 360 = (n, d, o) from hFR.symm)
    have HKA := am_ (show (b - a).natAbs ≤ 4000000000000000000 from by omega)
    clear hFR ht hnb
    go_enter Try.func126, Try.ntmps126
    go_wp2_with (((with_reducible refine gate_dst (N := 6) rfl ?_); refine box_event ?hg (N := 6) ?hd (cs := #[.int .i64 0, .int .i64 0]) (t := 24) ?hr ?_; (case hd => rfl); (case hg => rfl); (case hr => first | (go_simp; done) | (go_simp; rfl))); intro g1 hg w_g1 hbox hb; have n_ := am_ (below_step (by repeat first | (with_reducible first | exact HB.out | apply ba_ | apply bn_ | apply bd_) | exact HB.out) hb); have BKg1 := am_ hbox; have GEg1 := am_ (show w.heap.size ≤ g1 from by rw [hg]; exact below_size (by repeat first | (with_reducible first | exact HB.out | apply ba_ | apply bn_ | apply bd_) | exact HB.out)); clear HB ; have HB := n_; clear n_ hb hbox hg)
    refine (fracI_c _ _ HKA.out (by decide) (by decide) _).mono ?_
    rw [HK.out]
    rintro e w1 ⟨rfl, hb⟩
    replace BKg1 := am_ (blk_below (blk_below BKg1.out (by repeat first | exact Below.refl _ _ | apply ba_ | apply bn_ | apply bd_)) hb); replace HB := am_ (below_step (by repeat first | (with_reducible first | exact HB.out | apply ba_ | apply bn_ | apply bd_) | exact HB.out) hb); clear hb
    have yg1_0 : w1.cell? ⟨g1, 0, none⟩ = some (.int .i64 0) := (blk_cell BKg1.out 0).trans rfl; have fg1_0 := blk_frozen BKg1.out 0; have yg1_1 : w1.cell? ⟨g1, 1, none⟩ = some (.int .i64 0) := (blk_cell BKg1.out 1).trans rfl; have fg1_1 := blk_frozen BKg1.out 1
    go_wp2
    refine bodyPost_ret (results_ct rfl _ _ g1 24 #[.int .i64 n, .int .i64 d] (0, 0) _ rfl (by (with_reducible repeat first | refine kn_ ?_ _ | refine kd_ ?_ | refine ka_ ?_ _); refine blk_put (cs := #[.int .i64 n, .int .i64 0]) ?_ 1 _ rfl; (with_reducible repeat first | refine kn_ ?_ _ | refine kd_ ?_ | refine ka_ ?_ _); refine blk_put (cs := #[.int .i64 0, .int .i64 0]) ?_ 0 _ rfl; (with_reducible repeat first | refine kn_ ?_ _ | refine kd_ ?_ | refine ka_ ?_ _); exact BKg1.out) Try.underlying24 rfl (by kernel_rfl)) rfl ?_
    exact ⟨rfl, (by repeat first | (with_reducible first | exact HB.out | apply ba_ | apply bn_ | apply bd_ | refine below_set ?_ GEg1.out) | exact HB.out)⟩
  rw [if_neg c1] at hFR
  have cb1 : (c == 1) = false := by rw [beq_eq_false_iff_ne]; exact c1
  by_cases c2 : c = 2
  · subst c2
    rw [if_pos rfl] at hFR
    clear c1 cb1
    obtain ⟨n, d, o⟩ := FR
    have HK := am_ (show fracA (b - a) 365 = (n, d, o) from hFR.symm)
    have HKA := am_ (show (b - a).natAbs ≤ 4000000000000000000 from by omega)
    clear hFR ht hnb
    go_enter Try.func126, Try.ntmps126
    go_wp2_with (((with_reducible refine gate_dst (N := 6) rfl ?_); refine box_event ?hg (N := 6) ?hd (cs := #[.int .i64 0, .int .i64 0]) (t := 24) ?hr ?_; (case hd => rfl); (case hg => rfl); (case hr => first | (go_simp; done) | (go_simp; rfl))); intro g1 hg w_g1 hbox hb; have n_ := am_ (below_step (by repeat first | (with_reducible first | exact HB.out | apply ba_ | apply bn_ | apply bd_) | exact HB.out) hb); have BKg1 := am_ hbox; have GEg1 := am_ (show w.heap.size ≤ g1 from by rw [hg]; exact below_size (by repeat first | (with_reducible first | exact HB.out | apply ba_ | apply bn_ | apply bd_) | exact HB.out)); clear HB ; have HB := n_; clear n_ hb hbox hg)
    refine (fracI_c _ _ HKA.out (by decide) (by decide) _).mono ?_
    rw [HK.out]
    rintro e w1 ⟨rfl, hb⟩
    replace BKg1 := am_ (blk_below (blk_below BKg1.out (by repeat first | exact Below.refl _ _ | apply ba_ | apply bn_ | apply bd_)) hb); replace HB := am_ (below_step (by repeat first | (with_reducible first | exact HB.out | apply ba_ | apply bn_ | apply bd_) | exact HB.out) hb); clear hb
    have yg1_0 : w1.cell? ⟨g1, 0, none⟩ = some (.int .i64 0) := (blk_cell BKg1.out 0).trans rfl; have fg1_0 := blk_frozen BKg1.out 0; have yg1_1 : w1.cell? ⟨g1, 1, none⟩ = some (.int .i64 0) := (blk_cell BKg1.out 1).trans rfl; have fg1_1 := blk_frozen BKg1.out 1
    go_wp2
    refine bodyPost_ret (results_ct rfl _ _ g1 24 #[.int .i64 n, .int .i64 d] (0, 0) _ rfl (by (with_reducible repeat first | refine kn_ ?_ _ | refine kd_ ?_ | refine ka_ ?_ _); refine blk_put (cs := #[.int .i64 n, .int .i64 0]) ?_ 1 _ rfl; (with_reducible repeat first | refine kn_ ?_ _ | refine kd_ ?_ | refine ka_ ?_ _); refine blk_put (cs := #[.int .i64 0, .int .i64 0]) ?_ 0 _ rfl; (with_reducible repeat first | refine kn_ ?_ _ | refine kd_ ?_ | refine ka_ ?_ _); exact BKg1.out) Try.underlying24 rfl (by kernel_rfl)) rfl ?_
    exact ⟨rfl, (by repeat first | (with_reducible first | exact HB.out | apply ba_ | apply bn_ | apply bd_ | refine below_set ?_ GEg1.out) | exact HB.out)⟩
  rw [if_neg c2] at hFR
  have cb2 : (c == 2) = false := by rw [beq_eq_false_iff_ne]; exact c2
  by_cases c3 : c = 3
  · subst c3
    rw [if_pos rfl] at hFR
    clear c1 cb1 c2 cb2
    obtain ⟨TH, hTH⟩ : ∃ T, T = thirtyA a b := ⟨_, rfl⟩
    rw [← hTH] at hFR ht
    have HA := am_ ha
    have HBB := am_ hb
    obtain ⟨y, m, d1, y', m', d1', x, x', e1, e2, e3, e4, e5, b1, b2, b3, b4, b5, b6, b7, b8⟩ := thirty_parts ha hb
    rw [e5] at hTH
    obtain ⟨n, d, o⟩ := FR
    have HK := am_ (show fracA (TH) 360 = (n, d, o) from hFR.symm)
    have HKA := am_ (show (TH).natAbs ≤ 4000000000000000000 from by omega)
    clear hFR ht hnb
    have HE1 := am_ e1
    have HE2 := am_ e2
    have HTH := am_ hTH
    have hm1 : (d1 ≤ 30 ∧ x = d1) ∨ (30 ≤ d1 ∧ x = 30) := by rw [← e3]; unfold minI; split <;> omega
    have hm2 : (d1' ≤ 30 ∧ x' = d1') ∨ (30 ≤ d1' ∧ x' = 30) := by rw [← e4]; unfold minI; split <;> omega
    have HM1 := am_ hm1
    have HM2 := am_ hm2
    clear hm1 hm2 ha hb hab e1 e2 e3 e4 e5 hTH hc
    go_enter Try.func126, Try.ntmps126
    go_wp2_with (((with_reducible refine gate_dst (N := 6) rfl ?_); refine box_event ?hg (N := 6) ?hd (cs := #[.int .i64 0, .int .i64 0]) (t := 24) ?hr ?_; (case hd => rfl); (case hg => rfl); (case hr => first | (go_simp; done) | (go_simp; rfl))); intro g1 hg w_g1 hbox hb; have n_ := am_ (below_step (by repeat first | (with_reducible first | exact HB.out | apply ba_ | apply bn_ | apply bd_) | exact HB.out) hb); have BKg1 := am_ hbox; have GEg1 := am_ (show w.heap.size ≤ g1 from by rw [hg]; exact below_size (by repeat first | (with_reducible first | exact HB.out | apply ba_ | apply bn_ | apply bd_) | exact HB.out)); clear HB ; have HB := n_; clear n_ hb hbox hg)
    refine (dateI_c a HA.out _).mono ?_
    rw [HE1.out]
    rintro e w2 ⟨rfl, hb⟩
    replace BKg1 := am_ (blk_below (blk_below BKg1.out (by repeat first | exact Below.refl _ _ | apply ba_ | apply bn_ | apply bd_)) hb); replace HB := am_ (below_step (by repeat first | (with_reducible first | exact HB.out | apply ba_ | apply bn_ | apply bd_) | exact HB.out) hb); clear hb
    go_wp2_with fail
    refine (dateI_c b HBB.out _).mono ?_
    rw [HE2.out]
    rintro e w3 ⟨rfl, hb⟩
    replace BKg1 := am_ (blk_below (blk_below BKg1.out (by repeat first | exact Below.refl _ _ | apply ba_ | apply bn_ | apply bd_)) hb); replace HB := am_ (below_step (by repeat first | (with_reducible first | exact HB.out | apply ba_ | apply bn_ | apply bd_) | exact HB.out) hb); clear hb
    go_wp2_with (first
      | (((with_reducible refine gate_dst (N := 8) rfl ?_); refine box_event ?hg (N := 8) ?hd (cs := #[.int .i64 0, .int .i64 0, .int .i64 0]) (t := 125) ?hr ?_; (case hd => rfl); (case hg => rfl); (case hr => first | (go_simp; done) | (go_simp; rfl))); intro g2 hg w_g2 hbox hb; have n_ := am_ (below_step (by repeat first | (with_reducible first | exact HB.out | apply ba_ | apply bn_ | apply bd_ | refine below_set ?_ GEg1.out) | exact HB.out) hb); have m_g1 := am_ (blk_below (blk_below BKg1.out (by repeat first | exact Below.refl _ _ | apply ba_ | apply bn_ | apply bd_)) hb); have NEg1_g2 := am_ (show g1 ≠ g2 from by rw [hg]; exact Nat.ne_of_lt (blk_lt (blk_below BKg1.out (by repeat first | exact Below.refl _ _ | apply ba_ | apply bn_ | apply bd_)))); have NEg2_g1 := am_ (Ne.symm NEg1_g2.out); have BKg2 := am_ hbox; have GEg2 := am_ (show w.heap.size ≤ g2 from by rw [hg]; exact below_size (by repeat first | (with_reducible first | exact HB.out | apply ba_ | apply bn_ | apply bd_ | refine below_set ?_ GEg1.out) | exact HB.out)); clear HB BKg1; have HB := n_; clear n_ hb hbox hg; have BKg1 := m_g1; clear m_g1)
      | ((((with_reducible refine gate_dst (N := 9) rfl ?_); refine box_event ?hg (N := 9) ?hd (cs := #[.int .i64 0, .int .i64 0, .int .i64 0]) (t := 125) ?hr ?_; (case hd => rfl); (case hg => rfl); (case hr => first | (go_simp; done) | (go_simp; rfl))); intro g3 hg w_g3 hbox hb; have n_ := am_ (below_step (by repeat first | (with_reducible first | exact HB.out | apply ba_ | apply bn_ | apply bd_ | refine below_set ?_ GEg1.out | refine below_set ?_ GEg2.out) | exact HB.out) hb); have m_g1 := am_ (blk_below (blk_below BKg1.out (by repeat first | exact Below.refl _ _ | apply ba_ | apply bn_ | apply bd_)) hb); have NEg1_g3 := am_ (show g1 ≠ g3 from by rw [hg]; exact Nat.ne_of_lt (blk_lt (blk_below BKg1.out (by repeat first | exact Below.refl _ _ | apply ba_ | apply bn_ | apply bd_)))); have NEg3_g1 := am_ (Ne.symm NEg1_g3.out); have m_g2 := am_ (blk_below (blk_below BKg2.out (by repeat first | exact Below.refl _ _ | apply ba_ | apply bn_ | apply bd_)) hb); have NEg2_g3 := am_ (show g2 ≠ g3 from by rw [hg]; exact Nat.ne_of_lt (blk_lt (blk_below BKg2.out (by repeat first | exact Below.refl _ _ | apply ba_ | apply bn_ | apply bd_)))); have NEg3_g2 := am_ (Ne.symm NEg2_g3.out); have BKg3 := am_ hbox; have GEg3 := am_ (show w.heap.size ≤ g3 from by rw [hg]; exact below_size (by repeat first | (with_reducible first | exact HB.out | apply ba_ | apply bn_ | apply bd_ | refine below_set ?_ GEg1.out | refine below_set ?_ GEg2.out) | exact HB.out)); clear HB BKg1 BKg2; have HB := n_; clear n_ hb hbox hg; have BKg1 := m_g1; clear m_g1; have BKg2 := m_g2; clear m_g2); have yg2_0 : w_g3.cell? ⟨g2, 0, none⟩ = some (.int .i64 0) := (blk_cell BKg2.out 0).trans rfl; have fg2_0 := blk_frozen BKg2.out 0; have yg2_1 : w_g3.cell? ⟨g2, 1, none⟩ = some (.int .i64 0) := (blk_cell BKg2.out 1).trans rfl; have fg2_1 := blk_frozen BKg2.out 1; have yg2_2 : w_g3.cell? ⟨g2, 2, none⟩ = some (.int .i64 0) := (blk_cell BKg2.out 2).trans rfl; have fg2_2 := blk_frozen BKg2.out 2; have yg3_0 : w_g3.cell? ⟨g3, 0, none⟩ = some (.int .i64 0) := (blk_cell BKg3.out 0).trans rfl; have fg3_0 := blk_frozen BKg3.out 0; have yg3_1 : w_g3.cell? ⟨g3, 1, none⟩ = some (.int .i64 0) := (blk_cell BKg3.out 1).trans rfl; have fg3_1 := blk_frozen BKg3.out 1; have yg3_2 : w_g3.cell? ⟨g3, 2, none⟩ = some (.int .i64 0) := (blk_cell BKg3.out 2).trans rfl; have fg3_2 := blk_frozen BKg3.out 2; have hn1 := NEg2_g3.out; have hn2 := NEg3_g2.out))
    all_goals (
      have hm1 := HM1.out
      have hm2 := HM2.out
      have hth := HTH.out
      refine (fracI_e TH (show _ = TH from by omega) 360 HKA.out (by decide) (by decide) _).mono ?_
      rw [HK.out]
      rintro e w1 ⟨rfl, hb⟩
      have n_ := am_ (blk_below (g := g1) (o := .cells #[.int .i64 0, .int .i64 0] 24 (0, 0)) (by repeat (with_reducible first | exact BKg1.out | refine kn_ ?_ _ | refine kd_ ?_ | refine ka_ ?_ _ | refine kf_ ?_ NEg1_g2.out _ | refine kf_ ?_ NEg1_g3.out _)) hb)
      have m_ := am_ (below_step (by repeat first | (with_reducible first | exact HB.out | apply ba_ | apply bn_ | apply bd_ | refine below_set ?_ GEg2.out | refine below_set ?_ GEg3.out) | exact HB.out) hb)
      clear BKg1 HB
      have BKg1 := n_
      have HB := m_
      clear n_ m_ hb BKg2 BKg3
      have yg1_0 : w1.cell? ⟨g1, 0, none⟩ = some (.int .i64 0) := (blk_cell BKg1.out 0).trans rfl; have fg1_0 := blk_frozen BKg1.out 0; have yg1_1 : w1.cell? ⟨g1, 1, none⟩ = some (.int .i64 0) := (blk_cell BKg1.out 1).trans rfl; have fg1_1 := blk_frozen BKg1.out 1
      go_wp2
      refine bodyPost_ret (results_ct rfl _ _ g1 24 #[.int .i64 n, .int .i64 d] (0, 0) _ rfl (by (with_reducible repeat first | refine kn_ ?_ _ | refine kd_ ?_ | refine ka_ ?_ _); refine blk_put (cs := #[.int .i64 n, .int .i64 0]) ?_ 1 _ rfl; (with_reducible repeat first | refine kn_ ?_ _ | refine kd_ ?_ | refine ka_ ?_ _); refine blk_put (cs := #[.int .i64 0, .int .i64 0]) ?_ 0 _ rfl; (with_reducible repeat first | refine kn_ ?_ _ | refine kd_ ?_ | refine ka_ ?_ _); exact BKg1.out) Try.underlying24 rfl (by kernel_rfl)) rfl ?_
      exact ⟨rfl, (by repeat first | (with_reducible first | exact HB.out | apply ba_ | apply bn_ | apply bd_ | refine below_set ?_ GEg1.out) | exact HB.out)⟩)
  rw [if_neg c3] at hFR
  have cb3 : (c == 3) = false := by rw [beq_eq_false_iff_ne]; exact c3
  clear c1 c2 c3 ht hc
  have HS := am_ (show a ≤ a ∧ 0 ≤ a ∧ a ≤ b ∧ 0 ≤ (0 : Int) ∧ 0 + 366 * (b - a) ≤ 20000000 ∧ fracA (0 + numA a (b - a).toNat) 133590 = FR from ⟨by omega, by omega, hab, by omega, by omega, by rw [Int.zero_add]; exact hFR.symm⟩)
  have hfld := fldDate0
  have hb1 := hb.2
  obtain ⟨n, d, o⟩ := FR
  clear hFR ha hb hab hnb
  go_enter Try.func126, Try.ntmps126
  go_wp2_with (((with_reducible refine gate_dst (N := 6) rfl ?_); refine box_event ?hg (N := 6) ?hd (cs := #[.int .i64 0, .int .i64 0]) (t := 24) ?hr ?_; (case hd => rfl); (case hg => rfl); (case hr => first | (go_simp; done) | (go_simp; rfl))); intro g1 hg w_g1 hbox hb; have n_ := am_ (below_step (by repeat first | (with_reducible first | exact HB.out | apply ba_ | apply bn_ | apply bd_) | exact HB.out) hb); have BKg1 := am_ hbox; have GEg1 := am_ (show w.heap.size ≤ g1 from by rw [hg]; exact below_size (by repeat first | (with_reducible first | exact HB.out | apply ba_ | apply bn_ | apply bd_) | exact HB.out)); clear HB ; have HB := n_; clear n_ hb hbox hg)
  go_loopw [10, 11] (fun v10 v11 wr => ∃ s x : Int, v10 = .int .i64 s ∧ v11 = .int .i64 x ∧ Aside0 (a ≤ x ∧ 0 ≤ x ∧ x ≤ b ∧ 0 ≤ s ∧ s + 366 * (b - x) ≤ 20000000 ∧ fracA (s + numA x (b - x).toNat) 133590 = (n, d, o)) ∧ Aside0 (wr.heap[g1]? = some (.cells #[.int .i64 0, .int .i64 0] 24 (0, 0))) ∧ Aside0 (Below w.heap.size w wr)) (fun _ v11 _ => (b - intOf v11).toNat)
  case atStart => exact ⟨0, a, rfl, rfl, HS, ⟨(by (with_reducible repeat first | refine kn_ ?_ _ | refine kd_ ?_ | refine ka_ ?_ _); exact BKg1.out)⟩, ⟨(by repeat first | (with_reducible first | exact HB.out | apply ba_ | apply bn_ | apply bd_) | exact HB.out)⟩⟩
  case round =>
    clear HS BKg1 HB
    obtain ⟨s, x, rfl, rfl, HS, BKg1, HB⟩ := hrel
    obtain ⟨i1, i2, i3, i4, i5, i6⟩ := HS.out
    by_cases hxb : x < b
    · have cb : decide (x < b) = true := decide_eq_true hxb
      have HX := am_ (show 0 ≤ x ∧ x ≤ 36524 from by omega)
      obtain ⟨Y, hY⟩ : ∃ Y, Y = (dateC x).1 := ⟨_, rfl⟩
      have hYb := (dateC_is x (by omega)).1
      have HNS := am_ (show numA x (b - x).toNat = wdA x + numA (x + 1) (b - (x + 1)).toNat from by rw [show (b - x).toNat = (b - (x + 1)).toNat + 1 from by omega, num_step])
      have HWD := am_ (show wdA x = if Y % 4 = 0 then 365 else 366 from by rw [hY]; rfl)
      have HI6 := am_ i6
      rw [← hY] at hYb
      have HY := am_ hY
      have hm4 : Int.tmod Y 4 = Y % 4 := Int.tmod_eq_emod_of_nonneg (by omega)
      clear i6 hY
      go_wp2_with fail
      refine (dateI_c x HX.out _).mono ?_
      rw [← HY.out]
      rintro e w2 ⟨rfl, hb⟩
      replace BKg1 := am_ (blk_below (blk_below BKg1.out (by repeat first | exact Below.refl _ _ | apply ba_ | apply bn_ | apply bd_)) hb); replace HB := am_ (below_step (by repeat first | (with_reducible first | exact HB.out | apply ba_ | apply bn_ | apply bd_) | exact HB.out) hb); clear hb
      by_cases c4 : Y % 4 = 0
      · have hc4 : (Y % 4 == 0) = true := by rw [beq_iff_eq]; exact c4
        have HS2 := am_ (show a ≤ x + 1 ∧ 0 ≤ x + 1 ∧ x + 1 ≤ b ∧ 0 ≤ s + 365 ∧ s + 365 + 366 * (b - (x + 1)) ≤ 20000000 ∧ fracA (s + 365 + numA (x + 1) (b - (x + 1)).toNat) 133590 = (n, d, o) from ⟨by omega, by omega, by omega, by omega, by omega, by rw [← HI6.out, HNS.out, HWD.out, if_pos c4, Int.add_assoc]⟩)
        clear c4
        go_wp2
        go_roundw
        case rel => exact ⟨s + 365, x + 1, by go_num, by go_num, HS2, ⟨(by (with_reducible repeat first | refine kn_ ?_ _ | refine kd_ ?_ | refine ka_ ?_ _); exact BKg1.out)⟩, ⟨(by repeat first | (with_reducible first | exact HB.out | apply ba_ | apply bn_ | apply bd_) | exact HB.out)⟩⟩
        case measure => simp [intOf]; omega
      · have hc4 : (Y % 4 == 0) = false := by rw [beq_eq_false_iff_ne]; exact c4
        have HS2 := am_ (show a ≤ x + 1 ∧ 0 ≤ x + 1 ∧ x + 1 ≤ b ∧ 0 ≤ s + 366 ∧ s + 366 + 366 * (b - (x + 1)) ≤ 20000000 ∧ fracA (s + 366 + numA (x + 1) (b - (x + 1)).toNat) 133590 = (n, d, o) from ⟨by omega, by omega, by omega, by omega, by omega, by rw [← HI6.out, HNS.out, HWD.out, if_neg c4, Int.add_assoc]⟩)
        clear c4
        go_wp2
        go_roundw
        case rel => exact ⟨s + 366, x + 1, by go_num, by go_num, HS2, ⟨(by (with_reducible repeat first | refine kn_ ?_ _ | refine kd_ ?_ | refine ka_ ?_ _); exact BKg1.out)⟩, ⟨(by repeat first | (with_reducible first | exact HB.out | apply ba_ | apply bn_ | apply bd_) | exact HB.out)⟩⟩
        case measure => simp [intOf]; omega
    · have cb : decide (x < b) = false := decide_eq_false hxb
      rw [show (b - x).toNat = 0 from by omega, numA, Int.add_zero] at i6
      have HK := am_ (show fracA s 133590 = (n, d, o) from i6)
      have HKA := am_ (show s.natAbs ≤ 4000000000000000000 from by omega)
      clear i6
      go_wp2_with fail
      refine (fracI_c _ _ HKA.out (by decide) (by decide) _).mono ?_
      rw [HK.out]
      rintro e w1 ⟨rfl, hb⟩
      replace BKg1 := am_ (blk_below (blk_below BKg1.out (by repeat first | exact Below.refl _ _ | apply ba_ | apply bn_ | apply bd_)) hb); replace HB := am_ (below_step (by repeat first | (with_reducible first | exact HB.out | apply ba_ | apply bn_ | apply bd_) | exact HB.out) hb); clear hb
      have yg1_0 : w1.cell? ⟨g1, 0, none⟩ = some (.int .i64 0) := (blk_cell BKg1.out 0).trans rfl; have fg1_0 := blk_frozen BKg1.out 0; have yg1_1 : w1.cell? ⟨g1, 1, none⟩ = some (.int .i64 0) := (blk_cell BKg1.out 1).trans rfl; have fg1_1 := blk_frozen BKg1.out 1
      go_wp2
      refine bodyPost_ret (results_ct rfl _ _ g1 24 #[.int .i64 n, .int .i64 d] (0, 0) _ rfl (by (with_reducible repeat first | refine kn_ ?_ _ | refine kd_ ?_ | refine ka_ ?_ _); refine blk_put (cs := #[.int .i64 n, .int .i64 0]) ?_ 1 _ rfl; (with_reducible repeat first | refine kn_ ?_ _ | refine kd_ ?_ | refine ka_ ?_ _); refine blk_put (cs := #[.int .i64 0, .int .i64 0]) ?_ 0 _ rfl; (with_reducible repeat first | refine kn_ ?_ _ | refine kd_ ?_ | refine ka_ ?_ _); exact BKg1.out) Try.underlying24 rfl (by kernel_rfl)) rfl ?_
      exact ⟨rfl, (by repeat first | (with_reducible first | exact HB.out | apply ba_ | apply bn_ | apply bd_ | refine below_set ?_ GEg1.out) | exact HB.out)⟩
set_option maxHeartbeats 8000000 in
set_option maxRecDepth 100000 in
theorem dayCountI_c (a b c : Int) (w : World) :
    Calls Try.prog 106 #[.int .i64 a, .int .i64 b, .int .i64 c] w fun e w' => e = .returned (.tuple #[.agg #[.int .i64 (dayCountA a b c).1, .int .i64 (dayCountA a b c).2.1], .bool (dayCountA a b c).2.2]) ∧ Below w.heap.size w w' := by
  have HB := am_ (Below.refl w.heap.size w)
  have g0_ := isDay_eq a
  by_cases c0_ : 0 ≤ a ∧ a ≤ 36524
  · rw [decide_eq_true c0_] at g0_
    have G1 := am_ g0_
    clear g0_
    have g1_ := isDay_eq b
    by_cases c1_ : 0 ≤ b ∧ b ≤ 36524
    · rw [decide_eq_true c1_] at g1_
      have G2 := am_ g1_
      clear g1_
      by_cases c2_ : ¬ b < a
      · have cb2_ : decide (¬ b < a) = true := decide_eq_true c2_
        have g3_ := within_eq c 1 4
        by_cases c3_ : 1 ≤ c ∧ c ≤ 4
        · rw [decide_eq_true c3_] at g3_
          have G3 := am_ g3_
          clear g3_
          have hv : validC a b c := ⟨c0_, c1_, by omega, c3_⟩
          have hfin : dayCountA a b c = countA a b c := by unfold dayCountA; rw [if_pos hv]
          rw [hfin]
          obtain ⟨FR, hFR⟩ : ∃ F, F = countA a b c := ⟨_, rfl⟩
          have HFR := am_ hFR.symm
          rw [← hFR]
          obtain ⟨n, d, o⟩ := FR
          clear hFR
          have HV := am_ hv
          have cab_ : decide (b < a) = false := decide_eq_false c2_
          clear hfin hv c0_ c1_ c3_
          go_enter Try.func106, Try.ntmps106
          go_wp2_with (((with_reducible refine gate_dst (N := 6) rfl ?_); refine box_event ?hg (N := 6) ?hd (cs := #[.int .i64 0,.int .i64 0]) (t := 24) ?hr ?_; (case hd => rfl); (case hg => rfl); (case hr => first | (go_simp; done) | (go_simp; rfl))); intro g1 hg w_g1 hbox hb; have n_ := am_ (below_step (by repeat first | (with_reducible first | exact HB.out | apply ba_ | apply bn_ | apply bd_) | exact HB.out) hb); have BKg1 := am_ hbox; have GEg1 := am_ (show w.heap.size ≤ g1 from by rw [hg]; exact below_size (by repeat first | (with_reducible first | exact HB.out | apply ba_ | apply bn_ | apply bd_) | exact HB.out)); clear HB ; have HB := n_; clear n_ hb hbox hg)
          refine (impl_isDay.calls a true _ G1.out).mono ?_
          rintro e w1_ ⟨rfl, hb0⟩
          have hb := db_ hb0
          clear hb0
          replace BKg1 := am_ (blk_below (blk_below BKg1.out (by repeat first | exact Below.refl _ _ | apply ba_ | apply bn_ | apply bd_)) hb); replace HB := am_ (below_step (by repeat first | (with_reducible first | exact HB.out | apply ba_ | apply bn_ | apply bd_) | exact HB.out) hb); clear hb
          go_wp2_with fail
          refine (impl_isDay.calls b true _ G2.out).mono ?_
          rintro e w2_ ⟨rfl, hb0⟩
          have hb := db_ hb0
          clear hb0
          replace BKg1 := am_ (blk_below (blk_below BKg1.out (by repeat first | exact Below.refl _ _ | apply ba_ | apply bn_ | apply bd_)) hb); replace HB := am_ (below_step (by repeat first | (with_reducible first | exact HB.out | apply ba_ | apply bn_ | apply bd_) | exact HB.out) hb); clear hb
          go_wp2_with fail
          refine (impl_within.calls c 1 4 true _ G3.out).mono ?_
          rintro e w3_ ⟨rfl, hb0⟩
          have hb := db_ hb0
          clear hb0
          replace BKg1 := am_ (blk_below (blk_below BKg1.out (by repeat first | exact Below.refl _ _ | apply ba_ | apply bn_ | apply bd_)) hb); replace HB := am_ (below_step (by repeat first | (with_reducible first | exact HB.out | apply ba_ | apply bn_ | apply bd_) | exact HB.out) hb); clear hb
          go_wp2_with fail
          refine (countI_c a b c HV.out _).mono ?_
          rw [HFR.out]
          rintro e w9_ ⟨rfl, hb⟩
          replace BKg1 := am_ (blk_below (blk_below BKg1.out (by repeat first | exact Below.refl _ _ | apply ba_ | apply bn_ | apply bd_)) hb); replace HB := am_ (below_step (by repeat first | (with_reducible first | exact HB.out | apply ba_ | apply bn_ | apply bd_) | exact HB.out) hb); clear hb
          have yg1_0 : w9_.cell? ⟨g1, 0, none⟩ = some (.int .i64 0) := (blk_cell BKg1.out 0).trans rfl; have fg1_0 := blk_frozen BKg1.out 0; have yg1_1 : w9_.cell? ⟨g1, 1, none⟩ = some (.int .i64 0) := (blk_cell BKg1.out 1).trans rfl; have fg1_1 := blk_frozen BKg1.out 1
          go_wp2
          refine bodyPost_ret (results_ct rfl _ _ g1 24 #[.int .i64 n, .int .i64 d] (0, 0) _ rfl (by (with_reducible repeat first | refine kn_ ?_ _ | refine kd_ ?_ | refine ka_ ?_ _); refine blk_put (cs := #[.int .i64 n, .int .i64 0]) ?_ 1 _ rfl; (with_reducible repeat first | refine kn_ ?_ _ | refine kd_ ?_ | refine ka_ ?_ _); refine blk_put (cs := #[.int .i64 0, .int .i64 0]) ?_ 0 _ rfl; (with_reducible repeat first | refine kn_ ?_ _ | refine kd_ ?_ | refine ka_ ?_ _); exact BKg1.out) Try.underlying24 rfl (by kernel_rfl)) rfl ?_
          exact ⟨rfl, (by repeat first | (with_reducible first | exact HB.out | apply ba_ | apply bn_ | apply bd_ | refine below_set ?_ GEg1.out) | exact HB.out)⟩
        · rw [decide_eq_false c3_] at g3_
          have G3 := am_ g3_
          clear g3_
          have hfin : dayCountA a b c = (0, 0, false) := by unfold dayCountA; rw [if_neg (fun v => c3_ v.2.2.2)]
          rw [hfin]
          clear hfin
          have cab_ : decide (b < a) = false := decide_eq_false c2_
          go_enter Try.func106, Try.ntmps106
          go_wp2_with (((with_reducible refine gate_dst (N := 6) rfl ?_); refine box_event ?hg (N := 6) ?hd (cs := #[.int .i64 0,.int .i64 0]) (t := 24) ?hr ?_; (case hd => rfl); (case hg => rfl); (case hr => first | (go_simp; done) | (go_simp; rfl))); intro g1 hg w_g1 hbox hb; have n_ := am_ (below_step (by repeat first | (with_reducible first | exact HB.out | apply ba_ | apply bn_ | apply bd_) | exact HB.out) hb); have BKg1 := am_ hbox; have GEg1 := am_ (show w.heap.size ≤ g1 from by rw [hg]; exact below_size (by repeat first | (with_reducible first | exact HB.out | apply ba_ | apply bn_ | apply bd_) | exact HB.out)); clear HB ; have HB := n_; clear n_ hb hbox hg)
          refine (impl_isDay.calls a true _ G1.out).mono ?_
          rintro e w1_ ⟨rfl, hb0⟩
          have hb := db_ hb0
          clear hb0
          replace BKg1 := am_ (blk_below (blk_below BKg1.out (by repeat first | exact Below.refl _ _ | apply ba_ | apply bn_ | apply bd_)) hb); replace HB := am_ (below_step (by repeat first | (with_reducible first | exact HB.out | apply ba_ | apply bn_ | apply bd_) | exact HB.out) hb); clear hb
          go_wp2_with fail
          refine (impl_isDay.calls b true _ G2.out).mono ?_
          rintro e w2_ ⟨rfl, hb0⟩
          have hb := db_ hb0
          clear hb0
          replace BKg1 := am_ (blk_below (blk_below BKg1.out (by repeat first | exact Below.refl _ _ | apply ba_ | apply bn_ | apply bd_)) hb); replace HB := am_ (below_step (by repeat first | (with_reducible first | exact HB.out | apply ba_ | apply bn_ | apply bd_) | exact HB.out) hb); clear hb
          go_wp2_with fail
          refine (impl_within.calls c 1 4 false _ G3.out).mono ?_
          rintro e w3_ ⟨rfl, hb0⟩
          have hb := db_ hb0
          clear hb0
          replace BKg1 := am_ (blk_below (blk_below BKg1.out (by repeat first | exact Below.refl _ _ | apply ba_ | apply bn_ | apply bd_)) hb); replace HB := am_ (below_step (by repeat first | (with_reducible first | exact HB.out | apply ba_ | apply bn_ | apply bd_) | exact HB.out) hb); clear hb
          have yg1_0 : w3_.cell? ⟨g1, 0, none⟩ = some (.int .i64 0) := (blk_cell BKg1.out 0).trans rfl; have fg1_0 := blk_frozen BKg1.out 0; have yg1_1 : w3_.cell? ⟨g1, 1, none⟩ = some (.int .i64 0) := (blk_cell BKg1.out 1).trans rfl; have fg1_1 := blk_frozen BKg1.out 1
          go_wp2
          refine bodyPost_ret (results_ct rfl _ _ g1 24 #[.int .i64 0, .int .i64 0] (0, 0) _ rfl (by (with_reducible repeat first | refine kn_ ?_ _ | refine kd_ ?_ | refine ka_ ?_ _); refine blk_put (cs := #[.int .i64 0, .int .i64 0]) ?_ 1 _ rfl; (with_reducible repeat first | refine kn_ ?_ _ | refine kd_ ?_ | refine ka_ ?_ _); refine blk_put (cs := #[.int .i64 0, .int .i64 0]) ?_ 0 _ rfl; (with_reducible repeat first | refine kn_ ?_ _ | refine kd_ ?_ | refine ka_ ?_ _); exact BKg1.out) Try.underlying24 rfl (by kernel_rfl)) rfl ?_
          exact ⟨rfl, (by repeat first | (with_reducible first | exact HB.out | apply ba_ | apply bn_ | apply bd_ | refine below_set ?_ GEg1.out) | exact HB.out)⟩
      · have cb2_ : decide (¬ b < a) = false := decide_eq_false c2_
        have hfin : dayCountA a b c = (0, 0, false) := by unfold dayCountA; rw [if_neg (fun v => c2_ (by have := v.2.2.1; omega))]
        rw [hfin]
        clear hfin
        have cab_ : decide (b < a) = true := decide_eq_true (by omega)
        go_enter Try.func106, Try.ntmps106
        go_wp2_with (((with_reducible refine gate_dst (N := 6) rfl ?_); refine box_event ?hg (N := 6) ?hd (cs := #[.int .i64 0,.int .i64 0]) (t := 24) ?hr ?_; (case hd => rfl); (case hg => rfl); (case hr => first | (go_simp; done) | (go_simp; rfl))); intro g1 hg w_g1 hbox hb; have n_ := am_ (below_step (by repeat first | (with_reducible first | exact HB.out | apply ba_ | apply bn_ | apply bd_) | exact HB.out) hb); have BKg1 := am_ hbox; have GEg1 := am_ (show w.heap.size ≤ g1 from by rw [hg]; exact below_size (by repeat first | (with_reducible first | exact HB.out | apply ba_ | apply bn_ | apply bd_) | exact HB.out)); clear HB ; have HB := n_; clear n_ hb hbox hg)
        refine (impl_isDay.calls a true _ G1.out).mono ?_
        rintro e w1_ ⟨rfl, hb0⟩
        have hb := db_ hb0
        clear hb0
        replace BKg1 := am_ (blk_below (blk_below BKg1.out (by repeat first | exact Below.refl _ _ | apply ba_ | apply bn_ | apply bd_)) hb); replace HB := am_ (below_step (by repeat first | (with_reducible first | exact HB.out | apply ba_ | apply bn_ | apply bd_) | exact HB.out) hb); clear hb
        go_wp2_with fail
        refine (impl_isDay.calls b true _ G2.out).mono ?_
        rintro e w2_ ⟨rfl, hb0⟩
        have hb := db_ hb0
        clear hb0
        replace BKg1 := am_ (blk_below (blk_below BKg1.out (by repeat first | exact Below.refl _ _ | apply ba_ | apply bn_ | apply bd_)) hb); replace HB := am_ (below_step (by repeat first | (with_reducible first | exact HB.out | apply ba_ | apply bn_ | apply bd_) | exact HB.out) hb); clear hb
        have yg1_0 : w2_.cell? ⟨g1, 0, none⟩ = some (.int .i64 0) := (blk_cell BKg1.out 0).trans rfl; have fg1_0 := blk_frozen BKg1.out 0; have yg1_1 : w2_.cell? ⟨g1, 1, none⟩ = some (.int .i64 0) := (blk_cell BKg1.out 1).trans rfl; have fg1_1 := blk_frozen BKg1.out 1
        go_wp2
        refine bodyPost_ret (results_ct rfl _ _ g1 24 #[.int .i64 0, .int .i64 0] (0, 0) _ rfl (by (with_reducible repeat first | refine kn_ ?_ _ | refine kd_ ?_ | refine ka_ ?_ _); refine blk_put (cs := #[.int .i64 0, .int .i64 0]) ?_ 1 _ rfl; (with_reducible repeat first | refine kn_ ?_ _ | refine kd_ ?_ | refine ka_ ?_ _); refine blk_put (cs := #[.int .i64 0, .int .i64 0]) ?_ 0 _ rfl; (with_reducible repeat first | refine kn_ ?_ _ | refine kd_ ?_ | refine ka_ ?_ _); exact BKg1.out) Try.underlying24 rfl (by kernel_rfl)) rfl ?_
        exact ⟨rfl, (by repeat first | (with_reducible first | exact HB.out | apply ba_ | apply bn_ | apply bd_ | refine below_set ?_ GEg1.out) | exact HB.out)⟩
    · rw [decide_eq_false c1_] at g1_
      have G2 := am_ g1_
      clear g1_
      have hfin : dayCountA a b c = (0, 0, false) := by unfold dayCountA; rw [if_neg (fun v => c1_ v.2.1)]
      rw [hfin]
      clear hfin
      go_enter Try.func106, Try.ntmps106
      go_wp2_with (((with_reducible refine gate_dst (N := 6) rfl ?_); refine box_event ?hg (N := 6) ?hd (cs := #[.int .i64 0,.int .i64 0]) (t := 24) ?hr ?_; (case hd => rfl); (case hg => rfl); (case hr => first | (go_simp; done) | (go_simp; rfl))); intro g1 hg w_g1 hbox hb; have n_ := am_ (below_step (by repeat first | (with_reducible first | exact HB.out | apply ba_ | apply bn_ | apply bd_) | exact HB.out) hb); have BKg1 := am_ hbox; have GEg1 := am_ (show w.heap.size ≤ g1 from by rw [hg]; exact below_size (by repeat first | (with_reducible first | exact HB.out | apply ba_ | apply bn_ | apply bd_) | exact HB.out)); clear HB ; have HB := n_; clear n_ hb hbox hg)
      refine (impl_isDay.calls a true _ G1.out).mono ?_
      rintro e w1_ ⟨rfl, hb0⟩
      have hb := db_ hb0
      clear hb0
      replace BKg1 := am_ (blk_below (blk_below BKg1.out (by repeat first | exact Below.refl _ _ | apply ba_ | apply bn_ | apply bd_)) hb); replace HB := am_ (below_step (by repeat first | (with_reducible first | exact HB.out | apply ba_ | apply bn_ | apply bd_) | exact HB.out) hb); clear hb
      go_wp2_with fail
      refine (impl_isDay.calls b false _ G2.out).mono ?_
      rintro e w2_ ⟨rfl, hb0⟩
      have hb := db_ hb0
      clear hb0
      replace BKg1 := am_ (blk_below (blk_below BKg1.out (by repeat first | exact Below.refl _ _ | apply ba_ | apply bn_ | apply bd_)) hb); replace HB := am_ (below_step (by repeat first | (with_reducible first | exact HB.out | apply ba_ | apply bn_ | apply bd_) | exact HB.out) hb); clear hb
      have yg1_0 : w2_.cell? ⟨g1, 0, none⟩ = some (.int .i64 0) := (blk_cell BKg1.out 0).trans rfl; have fg1_0 := blk_frozen BKg1.out 0; have yg1_1 : w2_.cell? ⟨g1, 1, none⟩ = some (.int .i64 0) := (blk_cell BKg1.out 1).trans rfl; have fg1_1 := blk_frozen BKg1.out 1
      go_wp2
      refine bodyPost_ret (results_ct rfl _ _ g1 24 #[.int .i64 0, .int .i64 0] (0, 0) _ rfl (by (with_reducible repeat first | refine kn_ ?_ _ | refine kd_ ?_ | refine ka_ ?_ _); refine blk_put (cs := #[.int .i64 0, .int .i64 0]) ?_ 1 _ rfl; (with_reducible repeat first | refine kn_ ?_ _ | refine kd_ ?_ | refine ka_ ?_ _); refine blk_put (cs := #[.int .i64 0, .int .i64 0]) ?_ 0 _ rfl; (with_reducible repeat first | refine kn_ ?_ _ | refine kd_ ?_ | refine ka_ ?_ _); exact BKg1.out) Try.underlying24 rfl (by kernel_rfl)) rfl ?_
      exact ⟨rfl, (by repeat first | (with_reducible first | exact HB.out | apply ba_ | apply bn_ | apply bd_ | refine below_set ?_ GEg1.out) | exact HB.out)⟩
  · rw [decide_eq_false c0_] at g0_
    have G1 := am_ g0_
    clear g0_
    have hfin : dayCountA a b c = (0, 0, false) := by unfold dayCountA; rw [if_neg (fun v => c0_ v.1)]
    rw [hfin]
    clear hfin
    go_enter Try.func106, Try.ntmps106
    go_wp2_with (((with_reducible refine gate_dst (N := 6) rfl ?_); refine box_event ?hg (N := 6) ?hd (cs := #[.int .i64 0,.int .i64 0]) (t := 24) ?hr ?_; (case hd => rfl); (case hg => rfl); (case hr => first | (go_simp; done) | (go_simp; rfl))); intro g1 hg w_g1 hbox hb; have n_ := am_ (below_step (by repeat first | (with_reducible first | exact HB.out | apply ba_ | apply bn_ | apply bd_) | exact HB.out) hb); have BKg1 := am_ hbox; have GEg1 := am_ (show w.heap.size ≤ g1 from by rw [hg]; exact below_size (by repeat first | (with_reducible first | exact HB.out | apply ba_ | apply bn_ | apply bd_) | exact HB.out)); clear HB ; have HB := n_; clear n_ hb hbox hg)
    refine (impl_isDay.calls a false _ G1.out).mono ?_
    rintro e w1_ ⟨rfl, hb0⟩
    have hb := db_ hb0
    clear hb0
    replace BKg1 := am_ (blk_below (blk_below BKg1.out (by repeat first | exact Below.refl _ _ | apply ba_ | apply bn_ | apply bd_)) hb); replace HB := am_ (below_step (by repeat first | (with_reducible first | exact HB.out | apply ba_ | apply bn_ | apply bd_) | exact HB.out) hb); clear hb
    have yg1_0 : w1_.cell? ⟨g1, 0, none⟩ = some (.int .i64 0) := (blk_cell BKg1.out 0).trans rfl; have fg1_0 := blk_frozen BKg1.out 0; have yg1_1 : w1_.cell? ⟨g1, 1, none⟩ = some (.int .i64 0) := (blk_cell BKg1.out 1).trans rfl; have fg1_1 := blk_frozen BKg1.out 1
    go_wp2
    refine bodyPost_ret (results_ct rfl _ _ g1 24 #[.int .i64 0, .int .i64 0] (0, 0) _ rfl (by (with_reducible repeat first | refine kn_ ?_ _ | refine kd_ ?_ | refine ka_ ?_ _); refine blk_put (cs := #[.int .i64 0, .int .i64 0]) ?_ 1 _ rfl; (with_reducible repeat first | refine kn_ ?_ _ | refine kd_ ?_ | refine ka_ ?_ _); refine blk_put (cs := #[.int .i64 0, .int .i64 0]) ?_ 0 _ rfl; (with_reducible repeat first | refine kn_ ?_ _ | refine kd_ ?_ | refine ka_ ?_ _); exact BKg1.out) Try.underlying24 rfl (by kernel_rfl)) rfl ?_
    exact ⟨rfl, (by repeat first | (with_reducible first | exact HB.out | apply ba_ | apply bn_ | apply bd_ | refine below_set ?_ GEg1.out) | exact HB.out)⟩
set_option maxHeartbeats 8000000 in
set_option maxRecDepth 100000 in
theorem growthI_c (n d x y c : Int) (w : World) :
    Calls Try.prog 55 #[.agg #[.int .i64 n, .int .i64 d], .int .i64 x, .int .i64 y, .int .i64 c] w fun e w' => e = .returned (.tuple #[.agg #[.int .i64 (growthA n d x y c).1, .int .i64 (growthA n d x y c).2.1], .bool (growthA n d x y c).2.2]) ∧ Below w.heap.size w w' := by
  have HB := am_ (Below.refl w.heap.size w)
  obtain ⟨DC, hDC⟩ : ∃ F, F = dayCountA x y c := ⟨_, rfl⟩
  have HDC := am_ hDC.symm
  obtain ⟨n1, d1, ok⟩ := DC
  cases ok with
  | false =>
    have hfin : growthA n d x y c = (0, 0, false) := by unfold growthA; rw [← hDC]; rfl
    rw [hfin]
    clear hfin hDC
    go_enter Try.func55, Try.ntmps55
    go_wp2_with (first
      | (((with_reducible refine gate_dst (N := 4) rfl ?_); refine box_event ?hg (N := 4) ?hd (cs := #[.int .i64 n,.int .i64 d]) (t := 24) ?hr ?_; (case hd => rfl); (case hg => rfl); (case hr => first | (go_simp; done) | (go_simp; rfl))); intro g1 hg w_g1 hbox hb; have n_ := am_ (below_step (by repeat first | (with_reducible first | exact HB.out | apply ba_ | apply bn_ | apply bd_) | exact HB.out) hb); have BKg1 := am_ hbox; have GEg1 := am_ (show w.heap.size ≤ g1 from by rw [hg]; exact below_size (by repeat first | (with_reducible first | exact HB.out | apply ba_ | apply bn_ | apply bd_) | exact HB.out)); clear HB ; have HB := n_; clear n_ hb hbox hg)
      | (((with_reducible refine gate_dst (N := 8) rfl ?_); refine box_event ?hg (N := 8) ?hd (cs := #[.int .i64 0,.int .i64 0]) (t := 24) ?hr ?_; (case hd => rfl); (case hg => rfl); (case hr => first | (go_simp; done) | (go_simp; rfl))); intro g2 hg w_g2 hbox hb; have n_ := am_ (below_step (by repeat first | (with_reducible first | exact HB.out | apply ba_ | apply bn_ | apply bd_ | refine below_set ?_ GEg1.out) | exact HB.out) hb); have m_g1 := am_ (blk_below (blk_below BKg1.out (by repeat first | exact Below.refl _ _ | apply ba_ | apply bn_ | apply bd_)) hb); have NEg1_g2 := am_ (show g1 ≠ g2 from by rw [hg]; exact Nat.ne_of_lt (blk_lt (blk_below BKg1.out (by repeat first | exact Below.refl _ _ | apply ba_ | apply bn_ | apply bd_)))); have NEg2_g1 := am_ (Ne.symm NEg1_g2.out); have BKg2 := am_ hbox; have GEg2 := am_ (show w.heap.size ≤ g2 from by rw [hg]; exact below_size (by repeat first | (with_reducible first | exact HB.out | apply ba_ | apply bn_ | apply bd_ | refine below_set ?_ GEg1.out) | exact HB.out)); clear HB BKg1; have HB := n_; clear n_ hb hbox hg; have BKg1 := m_g1; clear m_g1)
      )
    refine (dayCountI_c x y c _).mono ?_
    rw [HDC.out]
    rintro e w1_ ⟨rfl, hb⟩
    replace BKg1 := am_ (blk_below (blk_below BKg1.out (by repeat first | exact Below.refl _ _ | apply ba_ | apply bn_ | apply bd_)) hb); replace BKg2 := am_ (blk_below (blk_below BKg2.out (by repeat first | exact Below.refl _ _ | apply ba_ | apply bn_ | apply bd_)) hb); replace HB := am_ (below_step (by repeat first | (with_reducible first | exact HB.out | apply ba_ | apply bn_ | apply bd_) | exact HB.out) hb); clear hb
    go_wp2_with ((((with_reducible refine gate_dst (N := 10) rfl ?_); refine box_event ?hg (N := 10) ?hd (cs := #[.int .i64 0, .int .i64 0]) (t := 24) ?hr ?_; (case hd => rfl); (case hg => rfl); (case hr => first | (go_simp; done) | (go_simp; rfl))); intro g3 hg w_g3 hbox hb; have n_ := am_ (below_step (by repeat first | (with_reducible first | exact HB.out | apply ba_ | apply bn_ | apply bd_ | refine below_set ?_ GEg1.out | refine below_set ?_ GEg2.out) | exact HB.out) hb); have m_g1 := am_ (blk_below (blk_below BKg1.out (by repeat first | exact Below.refl _ _ | apply ba_ | apply bn_ | apply bd_)) hb); have NEg1_g3 := am_ (show g1 ≠ g3 from by rw [hg]; exact Nat.ne_of_lt (blk_lt (blk_below BKg1.out (by repeat first | exact Below.refl _ _ | apply ba_ | apply bn_ | apply bd_)))); have NEg3_g1 := am_ (Ne.symm NEg1_g3.out); have m_g2 := am_ (blk_below (blk_below BKg2.out (by repeat first | exact Below.refl _ _ | apply ba_ | apply bn_ | apply bd_)) hb); have NEg2_g3 := am_ (show g2 ≠ g3 from by rw [hg]; exact Nat.ne_of_lt (blk_lt (blk_below BKg2.out (by repeat first | exact Below.refl _ _ | apply ba_ | apply bn_ | apply bd_)))); have NEg3_g2 := am_ (Ne.symm NEg2_g3.out); have BKg3 := am_ hbox; have GEg3 := am_ (show w.heap.size ≤ g3 from by rw [hg]; exact below_size (by repeat first | (with_reducible first | exact HB.out | apply ba_ | apply bn_ | apply bd_ | refine below_set ?_ GEg1.out | refine below_set ?_ GEg2.out) | exact HB.out)); clear HB BKg1 BKg2; have HB := n_; clear n_ hb hbox hg; have BKg1 := m_g1; clear m_g1; have BKg2 := m_g2; clear m_g2); have yg2_0 : w_g3.cell? ⟨g2, 0, none⟩ = some (.int .i64 0) := (blk_cell BKg2.out 0).trans rfl; have fg2_0 := blk_frozen BKg2.out 0; have yg2_1 : w_g3.cell? ⟨g2, 1, none⟩ = some (.int .i64 0) := (blk_cell BKg2.out 1).trans rfl; have fg2_1 := blk_frozen BKg2.out 1; have yg3_0 : w_g3.cell? ⟨g3, 0, none⟩ = some (.int .i64 0) := (blk_cell BKg3.out 0).trans rfl; have fg3_0 := blk_frozen BKg3.out 0; have yg3_1 : w_g3.cell? ⟨g3, 1, none⟩ = some (.int .i64 0) := (blk_cell BKg3.out 1).trans rfl; have fg3_1 := blk_frozen BKg3.out 1; have hn1_ := NEg2_g3.out; have hn2_ := NEg3_g2.out)
    refine bodyPost_ret (results_ct rfl _ _ g2 24 #[.int .i64 0, .int .i64 0] (0, 0) _ rfl (by (with_reducible repeat first | refine kn_ ?_ _ | refine kd_ ?_ | refine ka_ ?_ _); refine blk_put (cs := #[.int .i64 0, .int .i64 0]) ?_ 1 _ rfl; (with_reducible repeat first | refine kn_ ?_ _ | refine kd_ ?_ | refine ka_ ?_ _); refine blk_put (cs := #[.int .i64 0, .int .i64 0]) ?_ 0 _ rfl; (with_reducible repeat first | refine kn_ ?_ _ | refine kd_ ?_ | refine ka_ ?_ _ | refine kf_ ?_ NEg2_g3.out _); exact BKg2.out) Try.underlying24 rfl (by kernel_rfl)) rfl ?_
    exact ⟨rfl, (by repeat first | (with_reducible first | exact HB.out | apply ba_ | apply bn_ | apply bd_ | refine below_set ?_ GEg1.out | refine below_set ?_ GEg2.out | refine below_set ?_ GEg3.out) | exact HB.out)⟩
  | true =>
    have hfin : growthA n d x y c = multA n d n1 d1 := by unfold growthA; rw [← hDC]; rfl
    rw [hfin]
    obtain ⟨FR, hFR⟩ : ∃ F, F = multA n d n1 d1 := ⟨_, rfl⟩
    have HFR := am_ hFR.symm
    rw [← hFR]
    obtain ⟨n2, d2, o2⟩ := FR
    clear hFR
    clear hfin hDC
    go_enter Try.func55, Try.ntmps55
    go_wp2_with (first
      | (((with_reducible refine gate_dst (N := 4) rfl ?_); refine box_event ?hg (N := 4) ?hd (cs := #[.int .i64 n,.int .i64 d]) (t := 24) ?hr ?_; (case hd => rfl); (case hg => rfl); (case hr => first | (go_simp; done) | (go_simp; rfl))); intro g1 hg w_g1 hbox hb; have n_ := am_ (below_step (by repeat first | (with_reducible first | exact HB.out | apply ba_ | apply bn_ | apply bd_) | exact HB.out) hb); have BKg1 := am_ hbox; have GEg1 := am_ (show w.heap.size ≤ g1 from by rw [hg]; exact below_size (by repeat first | (with_reducible first | exact HB.out | apply ba_ | apply bn_ | apply bd_) | exact HB.out)); clear HB ; have HB := n_; clear n_ hb hbox hg)
      | (((with_reducible refine gate_dst (N := 8) rfl ?_); refine box_event ?hg (N := 8) ?hd (cs := #[.int .i64 0,.int .i64 0]) (t := 24) ?hr ?_; (case hd => rfl); (case hg => rfl); (case hr => first | (go_simp; done) | (go_simp; rfl))); intro g2 hg w_g2 hbox hb; have n_ := am_ (below_step (by repeat first | (with_reducible first | exact HB.out | apply ba_ | apply bn_ | apply bd_ | refine below_set ?_ GEg1.out) | exact HB.out) hb); have m_g1 := am_ (blk_below (blk_below BKg1.out (by repeat first | exact Below.refl _ _ | apply ba_ | apply bn_ | apply bd_)) hb); have NEg1_g2 := am_ (show g1 ≠ g2 from by rw [hg]; exact Nat.ne_of_lt (blk_lt (blk_below BKg1.out (by repeat first | exact Below.refl _ _ | apply ba_ | apply bn_ | apply bd_)))); have NEg2_g1 := am_ (Ne.symm NEg1_g2.out); have BKg2 := am_ hbox; have GEg2 := am_ (show w.heap.size ≤ g2 from by rw [hg]; exact below_size (by repeat first | (with_reducible first | exact HB.out | apply ba_ | apply bn_ | apply bd_ | refine below_set ?_ GEg1.out) | exact HB.out)); clear HB BKg1; have HB := n_; clear n_ hb hbox hg; have BKg1 := m_g1; clear m_g1)
      )
    refine (dayCountI_c x y c _).mono ?_
    rw [HDC.out]
    rintro e w1_ ⟨rfl, hb⟩
    replace BKg1 := am_ (blk_below (blk_below BKg1.out (by repeat first | exact Below.refl _ _ | apply ba_ | apply bn_ | apply bd_)) hb); replace BKg2 := am_ (blk_below (blk_below BKg2.out (by repeat first | exact Below.refl _ _ | apply ba_ | apply bn_ | apply bd_)) hb); replace HB := am_ (below_step (by repeat first | (with_reducible first | exact HB.out | apply ba_ | apply bn_ | apply bd_) | exact HB.out) hb); clear hb
    go_wp2_with ((((with_reducible refine gate_dst (N := 10) rfl ?_); refine box_event ?hg (N := 10) ?hd (cs := #[.int .i64 0, .int .i64 0]) (t := 24) ?hr ?_; (case hd => rfl); (case hg => rfl); (case hr => first | (go_simp; done) | (go_simp; rfl))); intro g3 hg w_g3 hbox hb; have n_ := am_ (below_step (by repeat first | (with_reducible first | exact HB.out | apply ba_ | apply bn_ | apply bd_ | refine below_set ?_ GEg1.out | refine below_set ?_ GEg2.out) | exact HB.out) hb); have m_g1 := am_ (blk_below (blk_below BKg1.out (by repeat first | exact Below.refl _ _ | apply ba_ | apply bn_ | apply bd_)) hb); have NEg1_g3 := am_ (show g1 ≠ g3 from by rw [hg]; exact Nat.ne_of_lt (blk_lt (blk_below BKg1.out (by repeat first | exact Below.refl _ _ | apply ba_ | apply bn_ | apply bd_)))); have NEg3_g1 := am_ (Ne.symm NEg1_g3.out); have m_g2 := am_ (blk_below (blk_below BKg2.out (by repeat first | exact Below.refl _ _ | apply ba_ | apply bn_ | apply bd_)) hb); have NEg2_g3 := am_ (show g2 ≠ g3 from by rw [hg]; exact Nat.ne_of_lt (blk_lt (blk_below BKg2.out (by repeat first | exact Below.refl _ _ | apply ba_ | apply bn_ | apply bd_)))); have NEg3_g2 := am_ (Ne.symm NEg2_g3.out); have BKg3 := am_ hbox; have GEg3 := am_ (show w.heap.size ≤ g3 from by rw [hg]; exact below_size (by repeat first | (with_reducible first | exact HB.out | apply ba_ | apply bn_ | apply bd_ | refine below_set ?_ GEg1.out | refine below_set ?_ GEg2.out) | exact HB.out)); clear HB BKg1 BKg2; have HB := n_; clear n_ hb hbox hg; have BKg1 := m_g1; clear m_g1; have BKg2 := m_g2; clear m_g2); have yg1_0 : w_g3.cell? ⟨g1, 0, none⟩ = some (.int .i64 n) := (blk_cell BKg1.out 0).trans rfl; have fg1_0 := blk_frozen BKg1.out 0; have yg1_1 : w_g3.cell? ⟨g1, 1, none⟩ = some (.int .i64 d) := (blk_cell BKg1.out 1).trans rfl; have fg1_1 := blk_frozen BKg1.out 1; have yg3_0 : w_g3.cell? ⟨g3, 0, none⟩ = some (.int .i64 0) := (blk_cell BKg3.out 0).trans rfl; have fg3_0 := blk_frozen BKg3.out 0; have yg3_1 : w_g3.cell? ⟨g3, 1, none⟩ = some (.int .i64 0) := (blk_cell BKg3.out 1).trans rfl; have fg3_1 := blk_frozen BKg3.out 1; have hn1_ := NEg1_g3.out; have hn2_ := NEg3_g1.out)
    refine (multI_c n d n1 d1 _).mono ?_
    rw [HFR.out]
    rintro e v1_ ⟨rfl, hb⟩
    have m_g2 := am_ (blk_below (g := g2) (o := .cells #[.int .i64 0, .int .i64 0] 24 (0, 0)) (by repeat (with_reducible first | exact BKg2.out | refine kn_ ?_ _ | refine kd_ ?_ | refine ka_ ?_ _ | refine kf_ ?_ NEg2_g3.out _)) hb)
    have n_ := am_ (below_step (by repeat first | (with_reducible first | exact HB.out | apply ba_ | apply bn_ | apply bd_ | refine below_set ?_ GEg3.out) | exact HB.out) hb)
    clear HB hb BKg2 BKg1 BKg3
    have HB := n_
    clear n_
    have BKg2 := m_g2
    clear m_g2
    have yg2_0 : v1_.cell? ⟨g2, 0, none⟩ = some (.int .i64 0) := (blk_cell BKg2.out 0).trans rfl; have fg2_0 := blk_frozen BKg2.out 0; have yg2_1 : v1_.cell? ⟨g2, 1, none⟩ = some (.int .i64 0) := (blk_cell BKg2.out 1).trans rfl; have fg2_1 := blk_frozen BKg2.out 1
    go_wp2
    refine bodyPost_ret (results_ct rfl _ _ g2 24 #[.int .i64 n2, .int .i64 d2] (0, 0) _ rfl (by (with_reducible repeat first | refine kn_ ?_ _ | refine kd_ ?_ | refine ka_ ?_ _); refine blk_put (cs := #[.int .i64 n2, .int .i64 0]) ?_ 1 _ rfl; (with_reducible repeat first | refine kn_ ?_ _ | refine kd_ ?_ | refine ka_ ?_ _); refine blk_put (cs := #[.int .i64 0, .int .i64 0]) ?_ 0 _ rfl; (with_reducible repeat first | refine kn_ ?_ _ | refine kd_ ?_ | refine ka_ ?_ _); exact BKg2.out) Try.underlying24 rfl (by kernel_rfl)) rfl ?_
    exact ⟨rfl, (by repeat first | (with_reducible first | exact HB.out | apply ba_ | apply bn_ | apply bd_ | refine below_set ?_ GEg1.out | refine below_set ?_ GEg2.out | refine below_set ?_ GEg3.out) | exact HB.out)⟩
set_option maxHeartbeats 8000000 in
set_option maxRecDepth 100000 in
theorem accrueI_c (p n d x y c mode : Int) (w : World) :
    Calls Try.prog 19 #[.int .i64 p, .agg #[.int .i64 n, .int .i64 d], .int .i64 x, .int .i64 y, .int .i64 c, .int .i64 mode] w fun e w' => e = .returned (.tuple #[.int .i64 (accrueA p n d x y c mode).1, .bool (accrueA p n d x y c mode).2]) ∧ Below w.heap.size w w' := by
  have HB := am_ (Below.refl w.heap.size w)
  obtain ⟨kr, hr⟩ := roundsOf (implInterest_ev n d c mode)
  have g0_ := within_eq p 0 1000000000
  by_cases c0_ : 0 ≤ p ∧ p ≤ 1000000000
  · rw [decide_eq_true c0_] at g0_
    have G1 := am_ g0_
    clear g0_
    have g1_ := hr
    by_cases c1_ : intOk n d c mode
    · rw [decide_eq_true c1_] at g1_
      have G2 := am_ g1_
      clear g1_
      obtain ⟨GR, hGR⟩ : ∃ F, F = growthA n d x y c := ⟨_, rfl⟩
      have HGR := am_ hGR.symm
      obtain ⟨n1, d1, ok⟩ := GR
      cases ok with
      | false =>
        have hfin : accrueA p n d x y c mode = (0, false) := by rw [show accrueA p n d x y c mode = _ from by unfold accrueA; rw [if_pos ⟨c0_, c1_⟩], ← hGR]; rfl
        rw [hfin]
        clear hfin hGR
        go_enter Try.func19, Try.ntmps19
        go_wp2_with (((with_reducible refine gate_dst (N := 7) rfl ?_); refine box_event ?hg (N := 7) ?hd (cs := #[.int .i64 n,.int .i64 d]) (t := 24) ?hr ?_; (case hd => rfl); (case hg => rfl); (case hr => first | (go_simp; done) | (go_simp; rfl))); intro g1 hg w_g1 hbox hb; have n_ := am_ (below_step (by repeat first | (with_reducible first | exact HB.out | apply ba_ | apply bn_ | apply bd_) | exact HB.out) hb); have BKg1 := am_ hbox; have GEg1 := am_ (show w.heap.size ≤ g1 from by rw [hg]; exact below_size (by repeat first | (with_reducible first | exact HB.out | apply ba_ | apply bn_ | apply bd_) | exact HB.out)); clear HB ; have HB := n_; clear n_ hb hbox hg)
        refine (impl_within.calls p 0 1000000000 true _ G1.out).mono ?_
        rintro e w1_ ⟨rfl, hb0⟩
        have hb := db_ hb0
        clear hb0
        replace BKg1 := am_ (blk_below (blk_below BKg1.out (by repeat first | exact Below.refl _ _ | apply ba_ | apply bn_ | apply bd_)) hb); replace HB := am_ (below_step (by repeat first | (with_reducible first | exact HB.out | apply ba_ | apply bn_ | apply bd_) | exact HB.out) hb); clear hb
        have yg1_0 : w1_.cell? ⟨g1, 0, none⟩ = some (.int .i64 n) := (blk_cell BKg1.out 0).trans rfl; have fg1_0 := blk_frozen BKg1.out 0; have yg1_1 : w1_.cell? ⟨g1, 1, none⟩ = some (.int .i64 d) := (blk_cell BKg1.out 1).trans rfl; have fg1_1 := blk_frozen BKg1.out 1
        go_wp2_with fail
        clear yg1_0 fg1_0 yg1_1 fg1_1
        refine (impl_isInterest.calls kr n d c mode true _ G2.out).mono ?_
        rintro e w2_ ⟨rfl, hb⟩
        replace BKg1 := am_ (blk_below (blk_below BKg1.out (by repeat first | exact Below.refl _ _ | apply ba_ | apply bn_ | apply bd_)) hb); replace HB := am_ (below_step (by repeat first | (with_reducible first | exact HB.out | apply ba_ | apply bn_ | apply bd_) | exact HB.out) hb); clear hb
        have yg1_0 : w2_.cell? ⟨g1, 0, none⟩ = some (.int .i64 n) := (blk_cell BKg1.out 0).trans rfl; have fg1_0 := blk_frozen BKg1.out 0; have yg1_1 : w2_.cell? ⟨g1, 1, none⟩ = some (.int .i64 d) := (blk_cell BKg1.out 1).trans rfl; have fg1_1 := blk_frozen BKg1.out 1
        go_wp2_with fail
        clear yg1_0 fg1_0 yg1_1 fg1_1
        refine (growthI_c n d x y c _).mono ?_
        rw [HGR.out]
        rintro e w9_ ⟨rfl, hb⟩
        replace BKg1 := am_ (blk_below (blk_below BKg1.out (by repeat first | exact Below.refl _ _ | apply ba_ | apply bn_ | apply bd_)) hb); replace HB := am_ (below_step (by repeat first | (with_reducible first | exact HB.out | apply ba_ | apply bn_ | apply bd_) | exact HB.out) hb); clear hb
        go_wp2_with ((((with_reducible refine gate_dst (N := 14) rfl ?_); refine box_event ?hg (N := 14) ?hd (cs := #[.int .i64 0, .int .i64 0]) (t := 24) ?hr ?_; (case hd => rfl); (case hg => rfl); (case hr => first | (go_simp; done) | (go_simp; rfl))); intro g3 hg w_g3 hbox hb; have n_ := am_ (below_step (by repeat first | (with_reducible first | exact HB.out | apply ba_ | apply bn_ | apply bd_ | refine below_set ?_ GEg1.out) | exact HB.out) hb); have m_g1 := am_ (blk_below (blk_below BKg1.out (by repeat first | exact Below.refl _ _ | apply ba_ | apply bn_ | apply bd_)) hb); have NEg1_g3 := am_ (show g1 ≠ g3 from by rw [hg]; exact Nat.ne_of_lt (blk_lt (blk_below BKg1.out (by repeat first | exact Below.refl _ _ | apply ba_ | apply bn_ | apply bd_)))); have NEg3_g1 := am_ (Ne.symm NEg1_g3.out); have BKg3 := am_ hbox; have GEg3 := am_ (show w.heap.size ≤ g3 from by rw [hg]; exact below_size (by repeat first | (with_reducible first | exact HB.out | apply ba_ | apply bn_ | apply bd_ | refine below_set ?_ GEg1.out) | exact HB.out)); clear HB BKg1; have HB := n_; clear n_ hb hbox hg; have BKg1 := m_g1; clear m_g1); have yg3_0 : w_g3.cell? ⟨g3, 0, none⟩ = some (.int .i64 0) := (blk_cell BKg3.out 0).trans rfl; have fg3_0 := blk_frozen BKg3.out 0; have yg3_1 : w_g3.cell? ⟨g3, 1, none⟩ = some (.int .i64 0) := (blk_cell BKg3.out 1).trans rfl; have fg3_1 := blk_frozen BKg3.out 1)
        go_ret2
        exact ⟨rfl, (by repeat first | (with_reducible first | exact HB.out | apply ba_ | apply bn_ | apply bd_ | refine below_set ?_ GEg1.out | refine below_set ?_ GEg3.out) | exact HB.out)⟩
      | true =>
        have hfin : accrueA p n d x y c mode = scaleA p n1 d1 mode := by rw [show accrueA p n d x y c mode = _ from by unfold accrueA; rw [if_pos ⟨c0_, c1_⟩], ← hGR]; rfl
        rw [hfin]
        obtain ⟨SC, hSC⟩ : ∃ F, F = scaleA p n1 d1 mode := ⟨_, rfl⟩
        obtain ⟨k, hk⟩ := roundsOf (implScale_ev p n1 d1 mode)
        rw [← hSC] at hk ⊢
        obtain ⟨sv, so⟩ := SC
        have HK := am_ hk
        clear hk hSC
        clear hfin hGR
        go_enter Try.func19, Try.ntmps19
        go_wp2_with (((with_reducible refine gate_dst (N := 7) rfl ?_); refine box_event ?hg (N := 7) ?hd (cs := #[.int .i64 n,.int .i64 d]) (t := 24) ?hr ?_; (case hd => rfl); (case hg => rfl); (case hr => first | (go_simp; done) | (go_simp; rfl))); intro g1 hg w_g1 hbox hb; have n_ := am_ (below_step (by repeat first | (with_reducible first | exact HB.out | apply ba_ | apply bn_ | apply bd_) | exact HB.out) hb); have BKg1 := am_ hbox; have GEg1 := am_ (show w.heap.size ≤ g1 from by rw [hg]; exact below_size (by repeat first | (with_reducible first | exact HB.out | apply ba_ | apply bn_ | apply bd_) | exact HB.out)); clear HB ; have HB := n_; clear n_ hb hbox hg)
        refine (impl_within.calls p 0 1000000000 true _ G1.out).mono ?_
        rintro e w1_ ⟨rfl, hb0⟩
        have hb := db_ hb0
        clear hb0
        replace BKg1 := am_ (blk_below (blk_below BKg1.out (by repeat first | exact Below.refl _ _ | apply ba_ | apply bn_ | apply bd_)) hb); replace HB := am_ (below_step (by repeat first | (with_reducible first | exact HB.out | apply ba_ | apply bn_ | apply bd_) | exact HB.out) hb); clear hb
        have yg1_0 : w1_.cell? ⟨g1, 0, none⟩ = some (.int .i64 n) := (blk_cell BKg1.out 0).trans rfl; have fg1_0 := blk_frozen BKg1.out 0; have yg1_1 : w1_.cell? ⟨g1, 1, none⟩ = some (.int .i64 d) := (blk_cell BKg1.out 1).trans rfl; have fg1_1 := blk_frozen BKg1.out 1
        go_wp2_with fail
        clear yg1_0 fg1_0 yg1_1 fg1_1
        refine (impl_isInterest.calls kr n d c mode true _ G2.out).mono ?_
        rintro e w2_ ⟨rfl, hb⟩
        replace BKg1 := am_ (blk_below (blk_below BKg1.out (by repeat first | exact Below.refl _ _ | apply ba_ | apply bn_ | apply bd_)) hb); replace HB := am_ (below_step (by repeat first | (with_reducible first | exact HB.out | apply ba_ | apply bn_ | apply bd_) | exact HB.out) hb); clear hb
        have yg1_0 : w2_.cell? ⟨g1, 0, none⟩ = some (.int .i64 n) := (blk_cell BKg1.out 0).trans rfl; have fg1_0 := blk_frozen BKg1.out 0; have yg1_1 : w2_.cell? ⟨g1, 1, none⟩ = some (.int .i64 d) := (blk_cell BKg1.out 1).trans rfl; have fg1_1 := blk_frozen BKg1.out 1
        go_wp2_with fail
        clear yg1_0 fg1_0 yg1_1 fg1_1
        refine (growthI_c n d x y c _).mono ?_
        rw [HGR.out]
        rintro e w9_ ⟨rfl, hb⟩
        replace BKg1 := am_ (blk_below (blk_below BKg1.out (by repeat first | exact Below.refl _ _ | apply ba_ | apply bn_ | apply bd_)) hb); replace HB := am_ (below_step (by repeat first | (with_reducible first | exact HB.out | apply ba_ | apply bn_ | apply bd_) | exact HB.out) hb); clear hb
        go_wp2_with ((((with_reducible refine gate_dst (N := 14) rfl ?_); refine box_event ?hg (N := 14) ?hd (cs := #[.int .i64 0, .int .i64 0]) (t := 24) ?hr ?_; (case hd => rfl); (case hg => rfl); (case hr => first | (go_simp; done) | (go_simp; rfl))); intro g3 hg w_g3 hbox hb; have n_ := am_ (below_step (by repeat first | (with_reducible first | exact HB.out | apply ba_ | apply bn_ | apply bd_ | refine below_set ?_ GEg1.out) | exact HB.out) hb); have m_g1 := am_ (blk_below (blk_below BKg1.out (by repeat first | exact Below.refl _ _ | apply ba_ | apply bn_ | apply bd_)) hb); have NEg1_g3 := am_ (show g1 ≠ g3 from by rw [hg]; exact Nat.ne_of_lt (blk_lt (blk_below BKg1.out (by repeat first | exact Below.refl _ _ | apply ba_ | apply bn_ | apply bd_)))); have NEg3_g1 := am_ (Ne.symm NEg1_g3.out); have BKg3 := am_ hbox; have GEg3 := am_ (show w.heap.size ≤ g3 from by rw [hg]; exact below_size (by repeat first | (with_reducible first | exact HB.out | apply ba_ | apply bn_ | apply bd_ | refine below_set ?_ GEg1.out) | exact HB.out)); clear HB BKg1; have HB := n_; clear n_ hb hbox hg; have BKg1 := m_g1; clear m_g1); have yg3_0 : w_g3.cell? ⟨g3, 0, none⟩ = some (.int .i64 0) := (blk_cell BKg3.out 0).trans rfl; have fg3_0 := blk_frozen BKg3.out 0; have yg3_1 : w_g3.cell? ⟨g3, 1, none⟩ = some (.int .i64 0) := (blk_cell BKg3.out 1).trans rfl; have fg3_1 := blk_frozen BKg3.out 1)
        refine (impl_ScaleAmount.calls k p n1 d1 mode sv so _ HK.out).mono ?_
        rintro e v3_ ⟨rfl, hb⟩
        have n_ := am_ (below_step (by repeat first | (with_reducible first | exact HB.out | apply ba_ | apply bn_ | apply bd_ | refine below_set ?_ GEg3.out) | exact HB.out) hb)
        clear HB hb BKg1 BKg3
        have HB := n_
        clear n_
        go_wp2
        go_ret2
        exact ⟨rfl, (by repeat first | (with_reducible first | exact HB.out | apply ba_ | apply bn_ | apply bd_ | refine below_set ?_ GEg1.out | refine below_set ?_ GEg3.out) | exact HB.out)⟩
    · rw [decide_eq_false c1_] at g1_
      have G2 := am_ g1_
      clear g1_
      have hfin : accrueA p n d x y c mode = (0, false) := by unfold accrueA; rw [if_neg (fun v => c1_ v.2)]
      rw [hfin]
      clear hfin
      go_enter Try.func19, Try.ntmps19
      go_wp2_with (((with_reducible refine gate_dst (N := 7) rfl ?_); refine box_event ?hg (N := 7) ?hd (cs := #[.int .i64 n,.int .i64 d]) (t := 24) ?hr ?_; (case hd => rfl); (case hg => rfl); (case hr => first | (go_simp; done) | (go_simp; rfl))); intro g1 hg w_g1 hbox hb; have n_ := am_ (below_step (by repeat first | (with_reducible first | exact HB.out | apply ba_ | apply bn_ | apply bd_) | exact HB.out) hb); have BKg1 := am_ hbox; have GEg1 := am_ (show w.heap.size ≤ g1 from by rw [hg]; exact below_size (by repeat first | (with_reducible first | exact HB.out | apply ba_ | apply bn_ | apply bd_) | exact HB.out)); clear HB ; have HB := n_; clear n_ hb hbox hg)
      refine (impl_within.calls p 0 1000000000 true _ G1.out).mono ?_
      rintro e w1_ ⟨rfl, hb0⟩
      have hb := db_ hb0
      clear hb0
      replace BKg1 := am_ (blk_below (blk_below BKg1.out (by repeat first | exact Below.refl _ _ | apply ba_ | apply bn_ | apply bd_)) hb); replace HB := am_ (below_step (by repeat first | (with_reducible first | exact HB.out | apply ba_ | apply bn_ | apply bd_) | exact HB.out) hb); clear hb
      have yg1_0 : w1_.cell? ⟨g1, 0, none⟩ = some (.int .i64 n) := (blk_cell BKg1.out 0).trans rfl; have fg1_0 := blk_frozen BKg1.out 0; have yg1_1 : w1_.cell? ⟨g1, 1, none⟩ = some (.int .i64 d) := (blk_cell BKg1.out 1).trans rfl; have fg1_1 := blk_frozen BKg1.out 1
      go_wp2_with fail
      clear yg1_0 fg1_0 yg1_1 fg1_1
      refine (impl_isInterest.calls kr n d c mode false _ G2.out).mono ?_
      rintro e w2_ ⟨rfl, hb⟩
      replace BKg1 := am_ (blk_below (blk_below BKg1.out (by repeat first | exact Below.refl _ _ | apply ba_ | apply bn_ | apply bd_)) hb); replace HB := am_ (below_step (by repeat first | (with_reducible first | exact HB.out | apply ba_ | apply bn_ | apply bd_) | exact HB.out) hb); clear hb
      go_wp2
      go_ret2
      exact ⟨rfl, (by repeat first | (with_reducible first | exact HB.out | apply ba_ | apply bn_ | apply bd_ | refine below_set ?_ GEg1.out) | exact HB.out)⟩
  · rw [decide_eq_false c0_] at g0_
    have G1 := am_ g0_
    clear g0_
    have hfin : accrueA p n d x y c mode = (0, false) := by unfold accrueA; rw [if_neg (fun v => c0_ v.1)]
    rw [hfin]
    clear hfin
    go_enter Try.func19, Try.ntmps19
    go_wp2_with (((with_reducible refine gate_dst (N := 7) rfl ?_); refine box_event ?hg (N := 7) ?hd (cs := #[.int .i64 n,.int .i64 d]) (t := 24) ?hr ?_; (case hd => rfl); (case hg => rfl); (case hr => first | (go_simp; done) | (go_simp; rfl))); intro g1 hg w_g1 hbox hb; have n_ := am_ (below_step (by repeat first | (with_reducible first | exact HB.out | apply ba_ | apply bn_ | apply bd_) | exact HB.out) hb); have BKg1 := am_ hbox; have GEg1 := am_ (show w.heap.size ≤ g1 from by rw [hg]; exact below_size (by repeat first | (with_reducible first | exact HB.out | apply ba_ | apply bn_ | apply bd_) | exact HB.out)); clear HB ; have HB := n_; clear n_ hb hbox hg)
    refine (impl_within.calls p 0 1000000000 false _ G1.out).mono ?_
    rintro e w1_ ⟨rfl, hb0⟩
    have hb := db_ hb0
    clear hb0
    replace BKg1 := am_ (blk_below (blk_below BKg1.out (by repeat first | exact Below.refl _ _ | apply ba_ | apply bn_ | apply bd_)) hb); replace HB := am_ (below_step (by repeat first | (with_reducible first | exact HB.out | apply ba_ | apply bn_ | apply bd_) | exact HB.out) hb); clear hb
    go_wp2
    go_ret2
    exact ⟨rfl, (by repeat first | (with_reducible first | exact HB.out | apply ba_ | apply bn_ | apply bd_ | refine below_set ?_ GEg1.out) | exact HB.out)⟩
end Go.Proofs.Ytacfepaemphdgaa.O
