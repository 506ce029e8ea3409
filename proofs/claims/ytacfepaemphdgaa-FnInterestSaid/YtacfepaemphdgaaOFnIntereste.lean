/- Walks of our own, a part of those for the law FnInterest: each function's contract in plain Lean. No condition beyond the bounds that each contract names. -/
import Derived.Test.YtacfepaemphdgaaPureFnInterest
import Derived.Test.YtacfepaemphdgaaOFnInteresta
import Derived.Test.YtacfepaemphdgaaOFnInterestb
import Derived.Test.YtacfepaemphdgaaOFnInterestc
import Derived.Test.YtacfepaemphdgaaOFnInterestd
namespace Go.Proofs.Ytacfepaemphdgaa.O
open Go.RowKit Go.Proofs.YtacfepaemphdgaaW.PrintWords Go.Proofs.YtacfepaemphdgaaW.PrintLast Go.Proofs.YtacfepaemphdgaaW.PrintMore Go.Proofs.Ytacfepaemphdgaa.PL15I Go.Proofs.Ytacfepaemphdgaa.EvKit Go.Proofs.Ytacfepaemphdgaa.Pure
set_option linter.unusedVariables false
set_option linter.unusedSimpArgs false
attribute [local go_sem] max2_int min2_int max_two min_two max_three min_three max_four min_four
set_option maxHeartbeats 16000000 in
set_option maxRecDepth 100000 in
theorem drawAcc_c (A : Option Addr) (c : Nat) (code : List Int) (w : World) (hr : (Kd.int .u8).C w A code.length code) (hx : ∀ x ∈ code, 0 ≤ x ∧ x ≤ 255) (hc : code.length ≤ c) :
    Calls Try.prog 39 #[.slice A code.length c] w fun e w' => ∃ p n d a b k m, e = .returned (.tuple #[.int .i64 p, .agg #[.int .i64 n, .int .i64 d], .int .i64 a, .int .i64 b, .int .i64 k, .int .i64 m]) ∧ Below w.heap.size w w' := by
  go_enter Try.func39, Try.ntmps39
  go_upto_region 2 with (fail)
  obtain ⟨W1, hW1⟩ : ∃ W1, W1 = w.alloc (.cells #[.int .i64 0, .int .i64 0] 24) := ⟨_, rfl⟩
  have BK0 := am_ (show W1.heap[w.heap.size]? = some (.cells #[.int .i64 0, .int .i64 0] 24 (0, 0)) from by rw [hW1]; exact blk_new w _)
  have hsz : W1.heap.size = w.heap.size + 1 := by rw [hW1]; exact Array.size_push _
  have HB1 := am_ (show Below w.heap.size w W1 from by rw [hW1]; exact ba_ (Below.refl _ _) _)
  have hcur := am_ (Cur.new (w0 := w) (w := W1) (c := c) HB1.out hr hx)
  rw [← hW1]
  clear hW1
  obtain ⟨g1, hgE1⟩ : ∃ g, g = w.heap.size := ⟨_, rfl⟩
  have GEg1 := am_ (show w.heap.size ≤ g1 from by omega)
  rw [← hgE1] at BK0 hsz ⊢
  clear hgE1
  obtain ⟨g, hgE⟩ : ∃ g, g = g1 + 1 := ⟨_, rfl⟩
  have NGg1 := am_ (show g ≠ g1 from by omega)
  rw [hsz, ← hgE] at hcur
  rw [← hgE]
  clear hgE hsz
  have HD := am_ (Dr.refl hcur.out (ba_ HB1.out _) (Int.le_refl 0))
  have HB := am_ HD.out.below
  have BKg1 := am_ (blk_alloc BK0.out (.cells #[.slice A code.length c, .int .i64 0, .int .u64 0] 108))
  clear BK0 HB1 hcur
  obtain ⟨wa, hwa⟩ : ∃ W, W = W1.alloc (.cells #[.slice A code.length c, .int .i64 0, .int .u64 0] 108) := ⟨_, rfl⟩
  rw [← hwa] at HD HB BKg1 ⊢
  clear hwa
  have hlo := minI_bd (code.length : Int) 3
  obtain ⟨lo, hlq⟩ : ∃ lo : Nat, (lo : Int) = minI (code.length : Int) 3 := ⟨(minI (code.length : Int) 3).toNat, by unfold minI; split <;> omega⟩
  have hlb : lo ≤ code.length := by omega
  have HLO := am_ (show spec_l1Least.f (code.length : Int) 3 = some (lo : Int) from by rw [l1Least_eq, hlq])
  obtain ⟨A2, code2, hrun, hC2, hM2⟩ := cutCode hr hc lo hlb
  have HC2 := am_ hC2
  have HX2 := am_ (show ∀ x ∈ code2, 0 ≤ x ∧ x ≤ 255 from fun x hq => hx x (hM2 x hq))
  clear hlo hlq hr hx hC2 hM2
  go_wp2_with fail
  refine (spec_l1Least.calls (code.length : Int) 3 (lo : Int) _ HLO.out).mono ?_
  rintro e w2 ⟨rfl, hb0⟩
  have hb := db_ hb0
  clear hb0
  have m_ := am_ (blk_below (by repeat first | exact BKg1.out | refine blk_alloc ?_ _ | refine kn_ ?_ _ | refine kd_ ?_) hb)
  have k_ := am_ (Dr.bel (by repeat first | exact HD.out | apply Dr.alloc | apply Dr.drewN | apply Dr.drew) hb)
  clear hb HD HB BKg1
  have HD := k_
  have BKg1 := m_
  clear k_ m_
  have HB := am_ HD.out.below
  go_wp2_with fail
  refine (drawDC_c A2 (c - lo) code2 _ (by repeat first | exact (Kd.C_below HC2.out HB.out) | with_reducible refine ca_ ?_ _ | with_reducible refine cn_ ?_ _ | with_reducible refine cd_ ?_) HX2.out).mono ?_
  rintro e w3 ⟨da, db, dk, rfl, hb⟩
  have m_ := am_ (blk_below (by repeat first | exact BKg1.out | refine blk_alloc ?_ _ | refine kn_ ?_ _ | refine kd_ ?_) hb)
  have k_ := am_ (Dr.bel (by repeat first | exact HD.out | apply Dr.alloc | apply Dr.drewN | apply Dr.drew) hb)
  clear hb HD HB BKg1 hrun HC2
  have HD := k_
  have BKg1 := m_
  clear k_ m_
  have HB := am_ HD.out.below
  go_wp2_with fail
  refine (terms15_c g code _ w _ HD.out.cur HB.out (by omega)).mono ?_
  rintro e w4 ⟨k, m, rfl, hd⟩
  have m_g1 := am_ (hd.2.2.blk (g' := g1) (o := .cells #[.int .i64 0, .int .i64 0] 24 (0, 0)) (by repeat first | exact BKg1.out | refine ka_ ?_ _ | refine kn_ ?_ _ | refine kd_ ?_) NGg1.out.symm (by simp))
  have k_ := am_ (Dr.trans (by repeat first | exact HD.out | apply Dr.alloc | apply Dr.drewN | apply Dr.drew) hd)
  clear hd HD HB BKg1
  have HD := k_
  clear k_
  have HB := am_ HD.out.below
  have BKg1 := m_g1
  clear m_g1
  go_wp2_with fail
  refine (principal_c g code _ w _ HD.out.cur HB.out (by omega)).mono ?_
  rintro e w5 ⟨p, rfl, hd⟩
  have m_g1 := am_ (hd.2.2.blk (g' := g1) (o := .cells #[.int .i64 0, .int .i64 0] 24 (0, 0)) (by repeat first | exact BKg1.out | refine ka_ ?_ _ | refine kn_ ?_ _ | refine kd_ ?_) NGg1.out.symm (by simp))
  have k_ := am_ (Dr.trans (by repeat first | exact HD.out | apply Dr.alloc | apply Dr.drewN | apply Dr.drew) hd)
  clear hd HD HB BKg1
  have HD := k_
  clear k_
  have HB := am_ HD.out.below
  have BKg1 := m_g1
  clear m_g1
  go_wp2_with fail
  refine (rate_c g code _ w _ HD.out.cur HB.out (by omega)).mono ?_
  rintro e w6 ⟨n, d, rfl, hd⟩
  have m_g1 := am_ (hd.2.2.blk (g' := g1) (o := .cells #[.int .i64 0, .int .i64 0] 24 (0, 0)) (by repeat first | exact BKg1.out | refine ka_ ?_ _ | refine kn_ ?_ _ | refine kd_ ?_) NGg1.out.symm (by simp))
  have k_ := am_ (Dr.trans (by repeat first | exact HD.out | apply Dr.alloc | apply Dr.drewN | apply Dr.drew) hd)
  clear hd HD HB BKg1
  have HD := k_
  clear k_
  have HB := am_ HD.out.below
  have BKg1 := m_g1
  clear m_g1
  have yg1_0 : w6.cell? ⟨g1, 0, none⟩ = some (.int .i64 0) := (blk_cell BKg1.out 0).trans rfl; have fg1_0 := blk_frozen BKg1.out 0; have yg1_1 : w6.cell? ⟨g1, 1, none⟩ = some (.int .i64 0) := (blk_cell BKg1.out 1).trans rfl; have fg1_1 := blk_frozen BKg1.out 1
  go_wp2
  refine bodyPost_ret (results_list (rs := [.tmp 2, .cell 3 24, .tmp 4, .tmp 5, .tmp 6, .tmp 7]) rfl (by simp) (.tmp (.cell g1 24 #[.int .i64 n, .int .i64 d] (0, 0) _ rfl (by (with_reducible repeat first | refine kn_ ?_ _ | refine kd_ ?_ | refine ka_ ?_ _); refine blk_put (cs := #[.int .i64 n, .int .i64 0]) ?_ 1 _ rfl; (with_reducible repeat first | refine kn_ ?_ _ | refine kd_ ?_ | refine ka_ ?_ _); refine blk_put (cs := #[.int .i64 0, .int .i64 0]) ?_ 0 _ rfl; (with_reducible repeat first | refine kn_ ?_ _ | refine kd_ ?_ | refine ka_ ?_ _); exact BKg1.out) Try.underlying24 rfl (by kernel_rfl) (.tmp (.tmp (.tmp (.tmp .nil))))))) rfl ?_
  exact ⟨p, n, d, da, db, k, m, rfl, (by repeat first | (with_reducible first | exact HB.out | apply ba_ | apply bn_ | apply bd_ | refine below_set ?_ GEg1.out) | exact HB.out)⟩
end Go.Proofs.Ytacfepaemphdgaa.O
