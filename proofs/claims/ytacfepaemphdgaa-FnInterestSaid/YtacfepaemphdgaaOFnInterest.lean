/- The law FnInterest walked: the draws, both programs' interest, and what holds of interest that is told. No other condition. -/
import Derived.Test.YtacfepaemphdgaaPureFnInterest
import Derived.Test.YtacfepaemphdgaaOFnInteresta
import Derived.Test.YtacfepaemphdgaaOFnInterestb
import Derived.Test.YtacfepaemphdgaaOFnInterestc
import Derived.Test.YtacfepaemphdgaaOFnInterestd
import Derived.Test.YtacfepaemphdgaaOFnIntereste
namespace Go.Proofs.Ytacfepaemphdgaa.O
open Go.RowKit Go.Proofs.YtacfepaemphdgaaW.PrintWords Go.Proofs.YtacfepaemphdgaaW.PrintLast Go.Proofs.YtacfepaemphdgaaW.PrintMore Go.Proofs.Ytacfepaemphdgaa.PL15I Go.Proofs.Ytacfepaemphdgaa.EvKit Go.Proofs.Ytacfepaemphdgaa.Pure
set_option linter.unusedVariables false
set_option linter.unusedSimpArgs false
attribute [local go_sem] max2_int min2_int max_two min_two max_three min_three max_four min_four
set_option maxHeartbeats 16000000 in
set_option maxRecDepth 100000 in
theorem law_c (A0 : Option Addr) (c0 : Nat) (l0 : List Int) (w : World) (hr0 : Kd.C (Kd.int .u8) w A0 l0.length l0) (hc0 : l0.length ≤ c0) (he0 : ∀ y ∈ l0, (0 ≤ y ∧ y ≤ 255)) :
    Calls Try.prog 10 #[.slice A0 l0.length c0] w fun e w' => e = .returned (.bool true) ∧ Below w.heap.size w w' := by
  have HR0 := am_ hr0
  have HC0 := am_ hc0
  have HE0 := am_ he0
  have HB := am_ (Below.refl w.heap.size w)
  clear hr0 hc0 he0
  by_cases hbig : (l0.length : Int) > 65536
  · have HV := am_ (show laws_vBig.f l0 = some true from congrArg some (decide_eq_true hbig))
    clear hbig
    go_enter Try.func10, Try.ntmps10
    go_wp2_with fail
    refine (laws_vBig.calls A0 c0 l0 true _ (by repeat first | exact (Kd.C_below HR0.out HB.out) | with_reducible refine ca_ ?_ _ | with_reducible refine cn_ ?_ _ | with_reducible refine cd_ ?_) HC0.out HV.out).mono ?_
    rintro e w1 ⟨rfl, hb0⟩
    have hb := db_ hb0
    clear hb0
    replace HB := am_ (below_step (by repeat first | (with_reducible first | exact HB.out | apply ba_ | apply bn_ | apply bd_) | exact HB.out) hb); clear hb
    go_wp2
    go_ret
    exact ⟨rfl, (by repeat first | (with_reducible first | exact HB.out | apply ba_ | apply bn_ | apply bd_) | exact HB.out)⟩
  have HV := am_ (show laws_vBig.f l0 = some false from congrArg some (decide_eq_false hbig))
  clear hbig
  go_enter Try.func10, Try.ntmps10
  go_wp2_with fail
  refine (laws_vBig.calls A0 c0 l0 false _ (by repeat first | exact (Kd.C_below HR0.out HB.out) | with_reducible refine ca_ ?_ _ | with_reducible refine cn_ ?_ _ | with_reducible refine cd_ ?_) HC0.out HV.out).mono ?_
  rintro e w1 ⟨rfl, hb0⟩
  have hb := db_ hb0
  clear hb0
  replace HB := am_ (below_step (by repeat first | (with_reducible first | exact HB.out | apply ba_ | apply bn_ | apply bd_) | exact HB.out) hb); clear hb
  go_wp2_with fail
  refine (drawAcc_c A0 c0 l0 _ (by repeat first | exact (Kd.C_below HR0.out HB.out) | with_reducible refine ca_ ?_ _ | with_reducible refine cn_ ?_ _ | with_reducible refine cd_ ?_) HE0.out HC0.out).mono ?_
  rintro e w2 ⟨p, n, d, a, b, k, m, rfl, hb⟩
  replace HB := am_ (below_step (by repeat first | (with_reducible first | exact HB.out | apply ba_ | apply bn_ | apply bd_) | exact HB.out) hb); clear hb
  obtain ⟨AR, hAR⟩ : ∃ C, C = accrueA p n d a b k m := ⟨_, rfl⟩
  have HAR := am_ hAR
  clear hAR
  obtain ⟨v, ok⟩ := AR
  go_upto_region 4 with (fail)
  obtain ⟨W1, hW1⟩ : ∃ W1, W1 = w2.alloc (.cells #[.int .i64 n, .int .i64 d] 24) := ⟨_, rfl⟩
  have BKg4 := am_ (show W1.heap[w2.heap.size]? = some (.cells #[.int .i64 n, .int .i64 d] 24 (0, 0)) from by rw [hW1]; exact blk_new w2 _)
  have n2 := am_ (show Below w.heap.size w W1 from by rw [hW1]; exact below_alloc HB.out _)
  rw [← hW1]
  clear hW1 HB
  have HB := n2
  clear n2
  generalize w2.heap.size = g4 at BKg4 ⊢
  have yg4_0 : W1.cell? ⟨g4, 0, none⟩ = some (.int .i64 n) := (blk_cell BKg4.out 0).trans rfl; have fg4_0 := blk_frozen BKg4.out 0; have yg4_1 : W1.cell? ⟨g4, 1, none⟩ = some (.int .i64 d) := (blk_cell BKg4.out 1).trans rfl; have fg4_1 := blk_frozen BKg4.out 1
  go_wp2_with fail
  clear yg4_0 fg4_0 yg4_1 fg4_1
  refine (accrueI_c p n d a b k m _).mono ?_
  rw [← HAR.out]
  rintro e w3 ⟨rfl, hb⟩
  replace BKg4 := am_ (blk_below (blk_below BKg4.out (by repeat first | exact Below.refl _ _ | apply ba_ | apply bn_ | apply bd_)) hb); replace HB := am_ (below_step (by repeat first | (with_reducible first | exact HB.out | apply ba_ | apply bn_ | apply bd_) | exact HB.out) hb); clear hb
  have yg4_0 : w3.cell? ⟨g4, 0, none⟩ = some (.int .i64 n) := (blk_cell BKg4.out 0).trans rfl; have fg4_0 := blk_frozen BKg4.out 0; have yg4_1 : w3.cell? ⟨g4, 1, none⟩ = some (.int .i64 d) := (blk_cell BKg4.out 1).trans rfl; have fg4_1 := blk_frozen BKg4.out 1
  go_wp2_with fail
  clear yg4_0 fg4_0 yg4_1 fg4_1
  refine (accrueS_c p n d a b k m _).mono ?_
  rw [← HAR.out]
  rintro e w4 ⟨rfl, hb⟩
  replace BKg4 := am_ (blk_below (blk_below BKg4.out (by repeat first | exact Below.refl _ _ | apply ba_ | apply bn_ | apply bd_)) hb); replace HB := am_ (below_step (by repeat first | (with_reducible first | exact HB.out | apply ba_ | apply bn_ | apply bd_) | exact HB.out) hb); clear hb
  cases ok with
  | false =>
    go_wp2
    go_ret
    exact ⟨rfl, (by repeat first | (with_reducible first | exact HB.out | apply ba_ | apply bn_ | apply bd_) | exact HB.out)⟩
  | true =>
    obtain ⟨hp, hv, fS, ⟨u, fU, hul⟩, fZ, fC⟩ := interest_facts HAR.out.symm
    have FS := am_ fS
    have FU := am_ fU
    have FZ := am_ fZ
    have FC := am_ fC
    have p0 := hp.1
    have p1 := hp.2
    have v0 := hv.1
    have v1 := hv.2
    clear fS fU fZ fC hp hv HAR
    have q1 : decide (v < 0) = false := decide_eq_false (by omega)
    have q2 : decide (v < u) = false := decide_eq_false (by omega)
    clear hul
    have yg4_0 : w4.cell? ⟨g4, 0, none⟩ = some (.int .i64 n) := (blk_cell BKg4.out 0).trans rfl; have fg4_0 := blk_frozen BKg4.out 0; have yg4_1 : w4.cell? ⟨g4, 1, none⟩ = some (.int .i64 d) := (blk_cell BKg4.out 1).trans rfl; have fg4_1 := blk_frozen BKg4.out 1
    go_wp2_with ((with_reducible refine gate_dst (N := 75) rfl ?_); refine Kd.R_lit k61 w.heap.size 61 (w0 := w) ?hg (N := 75) ?hd (xs := ([⟨a, ⟨n, d⟩⟩] : List S61)) (inner := [.int .i64 a, .int .i64 n, .int .i64 d]) (ok := fun _ => True) (okp := fun _ => True) ?hr ?hp (fun _ hk => hk) trivial (by repeat first | (with_reducible first | exact HB.out | apply ba_ | apply bn_ | apply bd_) | exact HB.out) (below_size (by repeat first | (with_reducible first | exact HB.out | apply ba_ | apply bn_ | apply bd_) | exact HB.out)) (by simp) ?_; (case hd => rfl); (case hg => rfl); (case hr => first | (go_simp; done) | (go_simp; rfl)); (case hp => exact (Reps.snoc (Reps.none _ 3) (show Kd.M k61 _ _ _ (⟨a, ⟨n, d⟩⟩ : S61) [.int .i64 a, .int .i64 n, .int .i64 d] from k61_mkM _ _ _ _) rfl)); intro v1 w1 ho hb hgr hnw)
    clear yg4_0 fg4_0 yg4_1 fg4_1
    have m_ := am_ (blk_grown BKg4.out hgr (by simp))
    clear BKg4 HB
    have BKg4 := m_
    have HB := am_ hb
    obtain ⟨xs, hxs⟩ : ∃ xs : List S61, xs = [⟨a, ⟨n, d⟩⟩] := ⟨_, rfl⟩
    rw [← hxs] at ho
    have HST := am_ (show stepA p xs a b k m = (v, true) from by rw [hxs]; exact FS.out)
    have hxl : xs.length ≤ 1048576 := by rw [hxs]; simp
    have HO := am_ ho
    clear m_ hb hgr hnw ho hxs FS
    obtain ⟨A1, c1, e1⟩ := Kd.R_slice HO.out
    subst e1
    go_wp2_with fail
    refine (stepI_c A1 c1 xs p a b k m hxl _ (by repeat first | exact (R_C HO.out) | with_reducible refine ca_ ?_ _ | with_reducible refine cn_ ?_ _ | with_reducible refine cd_ ?_) (R_cap HO.out) (fun hp => R_head HO.out hp)).mono ?_
    rw [HST.out]
    rintro e w5 ⟨rfl, hb⟩
    replace BKg4 := am_ (blk_below (blk_below BKg4.out (by repeat first | exact Below.refl _ _ | apply ba_ | apply bn_ | apply bd_)) hb); replace HB := am_ (below_step (by repeat first | (with_reducible first | exact HB.out | apply ba_ | apply bn_ | apply bd_) | exact HB.out) hb); clear hb
    clear HO HST hxl
    have yg4_0 : w5.cell? ⟨g4, 0, none⟩ = some (.int .i64 n) := (blk_cell BKg4.out 0).trans rfl; have fg4_0 := blk_frozen BKg4.out 0; have yg4_1 : w5.cell? ⟨g4, 1, none⟩ = some (.int .i64 d) := (blk_cell BKg4.out 1).trans rfl; have fg4_1 := blk_frozen BKg4.out 1
    go_wp2_with fail
    clear yg4_0 fg4_0 yg4_1 fg4_1
    refine (accrueI_c (p / 2) n d a b k m _).mono ?_
    rw [FU.out]
    rintro e w6 ⟨rfl, hb⟩
    replace BKg4 := am_ (blk_below (blk_below BKg4.out (by repeat first | exact Below.refl _ _ | apply ba_ | apply bn_ | apply bd_)) hb); replace HB := am_ (below_step (by repeat first | (with_reducible first | exact HB.out | apply ba_ | apply bn_ | apply bd_) | exact HB.out) hb); clear hb
    clear FU
    by_cases hab : a = b
    · have z0 := FZ.out hab
      have z1 : (v == 0) = true := by simp [z0]
      have z2 : decide (v = 0) = true := decide_eq_true z0
      have z3 : (a == b) = true := by simp [hab]
      have z4 : (a != b) = false := by simp [hab]
      have z5 : decide (a = b) = true := decide_eq_true hab
      clear hab z0 FZ FC
      go_wp2
      go_ret
      exact ⟨rfl, (by repeat first | (with_reducible first | exact HB.out | apply ba_ | apply bn_ | apply bd_) | exact HB.out)⟩
    · have z3 : (a == b) = false := by simp [hab]
      have z4 : (a != b) = true := by simp [hab]
      have z5 : decide (a = b) = false := decide_eq_false hab
      by_cases hm : 1000000000 < p + v
      · have z6 : decide (1000000000 < p + v) = true := decide_eq_true hm
        clear hab hm FZ FC
        go_wp2
        go_ret
        exact ⟨rfl, (by repeat first | (with_reducible first | exact HB.out | apply ba_ | apply bn_ | apply bd_) | exact HB.out)⟩
      · have z6 : decide (1000000000 < p + v) = false := decide_eq_false hm
        have HCP := am_ (FC.out hab (by omega))
        clear hab hm FZ FC
        have yg4_0 : w6.cell? ⟨g4, 0, none⟩ = some (.int .i64 n) := (blk_cell BKg4.out 0).trans rfl; have fg4_0 := blk_frozen BKg4.out 0; have yg4_1 : w6.cell? ⟨g4, 1, none⟩ = some (.int .i64 d) := (blk_cell BKg4.out 1).trans rfl; have fg4_1 := blk_frozen BKg4.out 1
        go_wp2_with ((with_reducible refine gate_dst (N := 133) rfl ?_); refine Kd.R_lit (Kd.int .i64) w.heap.size 3 (w0 := w) ?hg (N := 133) ?hd (xs := ([a, b] : List Int)) (inner := [.int .i64 a, .int .i64 b]) (ok := fun _ => True) (okp := fun _ => True) ?hr ?hp (fun _ hk => hk) trivial (by repeat first | (with_reducible first | exact HB.out | apply ba_ | apply bn_ | apply bd_) | exact HB.out) (below_size (by repeat first | (with_reducible first | exact HB.out | apply ba_ | apply bn_ | apply bd_) | exact HB.out)) (by simp) ?_; (case hd => rfl); (case hg => rfl); (case hr => first | (go_simp; done) | (go_simp; rfl)); (case hp => exact (Reps.one (show Kd.M (Kd.int .i64) _ _ _ a [.int .i64 a] from rfl) (Reps.one (show Kd.M (Kd.int .i64) _ _ _ b [.int .i64 b] from rfl) (Reps.none _ _)))); intro v1 w1 ho hb hgr hnw)
        clear yg4_0 fg4_0 yg4_1 fg4_1
        obtain ⟨xs, hxs⟩ : ∃ xs : List Int, xs = [a, b] := ⟨_, rfl⟩
        rw [← hxs] at ho
        have HST := am_ (show compA p n d xs k m = (p + v, true) from by rw [hxs]; exact HCP.out)
        have hxl : xs.length ≤ 1048576 := by rw [hxs]; simp
        clear HB
        have HB := am_ hb
        have HO := am_ ho
        clear hb hgr hnw ho hxs HCP
        obtain ⟨A2, c2, e2⟩ := Kd.R_slice HO.out
        subst e2
        go_wp2_with fail
        refine (compI_c A2 c2 xs p n d k m hxl _ (by repeat first | exact (R_C HO.out) | with_reducible refine ca_ ?_ _ | with_reducible refine cn_ ?_ _ | with_reducible refine cd_ ?_) (R_cap HO.out) (fun hp => R_head HO.out hp)).mono ?_
        rw [HST.out]
        rintro e w7 ⟨rfl, hb⟩
        replace HB := am_ (below_step (by repeat first | (with_reducible first | exact HB.out | apply ba_ | apply bn_ | apply bd_) | exact HB.out) hb); clear hb
        go_wp2
        go_ret
        exact ⟨rfl, (by repeat first | (with_reducible first | exact HB.out | apply ba_ | apply bn_ | apply bd_) | exact HB.out)⟩
end Go.Proofs.Ytacfepaemphdgaa.O
