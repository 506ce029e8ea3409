/- Walks of our own, a part of those for the law FnCoverage: each function's contract in plain Lean. No condition beyond the bounds that each contract names. -/
import Derived.Test.YtbnhpkkkijjkkaaPureFnCoverage
import Derived.Shelf.SlicesQ.IndexFunc
import Derived.Shelf.SlLaysH0
import Derived.Test.YtbnhpkkkijjkkaaOFnCoveragea
import Derived.Test.YtbnhpkkkijjkkaaOFnCoverageb
namespace Go.Proofs.Ytbnhpkkkijjkkaa.O
open Go.RowKit Go.Proofs.YtbnhpkkkijjkkaaW.PrintWords Go.Proofs.YtbnhpkkkijjkkaaW.PrintLast Go.Proofs.YtbnhpkkkijjkkaaW.PrintMore Go.Proofs.Ytbnhpkkkijjkkaa.PL18C Go.Proofs.Ytbnhpkkkijjkkaa.EvKit Go.Proofs.Ytbnhpkkkijjkkaa.Pure
set_option linter.unusedVariables false
set_option linter.unusedSimpArgs false
attribute [local go_sem] max2_int min2_int max_two min_two max_three min_three max_four min_four
set_option maxHeartbeats 16000000 in
set_option maxRecDepth 100000 in
theorem drawTurbo_c (A : Option Addr) (c : Nat) (code : List Int) (w : World) (hr : (Kd.int .u8).C w A code.length code) (hx : ∀ x ∈ code, 0 ≤ x ∧ x ≤ 255) :
    Calls Try.prog 31 #[.slice A code.length c] w fun e w' => ∃ v xs cash n d, e = .returned (.tuple #[v, .int .i64 cash, .agg #[.int .i64 n, .int .i64 d]]) ∧ Kd.R k49 49 w' w.heap.size (fun _ => True) v xs ∧ xs.length ≤ 100 ∧ (-1000000000000 ≤ cash ∧ cash ≤ 1000000000000) ∧ Below w.heap.size w w' := by
  go_enter Try.func31, Try.ntmps31
  go_wp2_with fail
  obtain ⟨W1, hW1⟩ : ∃ W1, W1 = w.alloc (.cells #[.int .i64 0, .int .i64 0] 35) := ⟨_, rfl⟩
  have BK0 := am_ (show W1.heap[w.heap.size]? = some (.cells #[.int .i64 0, .int .i64 0] 35 (0, 0)) from by rw [hW1]; exact blk_new w _)
  have HB1 := am_ (show Below w.heap.size w W1 from by rw [hW1]; exact ba_ (Below.refl _ _) _)
  have hcur := am_ (Cur.new (w0 := w) (w := W1) (c := c) HB1.out hr hx)
  have hlt : w.heap.size < W1.heap.size := blk_lt BK0.out
  have hsz : W1.heap.size = w.heap.size + 1 := by rw [hW1]; exact Array.size_push _
  rw [← hW1]
  clear hW1 hr hx
  obtain ⟨g1, hgE1⟩ : ∃ g, g = w.heap.size := ⟨_, rfl⟩
  have GEg1 := am_ (show w.heap.size ≤ g1 from by omega)
  rw [← hgE1] at BK0 hsz ⊢
  clear hgE1 hlt
  obtain ⟨g, hgE⟩ : ∃ g, g = g1 + 1 := ⟨_, rfl⟩
  have NGg1 := am_ (show g ≠ g1 from by omega)
  rw [hsz, ← hgE] at hcur
  rw [← hgE]
  clear hgE hsz
  refine (tranches_c g code 0 w _ hcur.out (ba_ HB1.out _) (by omega)).mono ?_
  rintro e w2 ⟨v, xs, rfl, ho, hl, hd⟩
  have HO := am_ ho
  have HL := am_ hl
  have BKg1 := am_ (hd.2.2.blk (g' := g1) (o := .cells #[.int .i64 0, .int .i64 0] 35 (0, 0)) (blk_alloc BK0.out _) NGg1.out.symm (by simp))
  have HD := am_ hd
  have HB := am_ hd.below
  clear ho hl hd BK0 HB1 hcur
  go_wp2_with fail
  refine (cash_c g code _ w _ HD.out.cur HB.out (by omega)).mono ?_
  rintro e w3 ⟨cash, rfl, hx, hd⟩
  have HX := am_ hx
  clear hx
  have n_ := am_ (R_dr flat_Tranche (by (with_reducible repeat first | apply ra_ | apply rn_ | apply rd_); exact HO.out) (Dr.cur (by repeat first | exact HD.out | apply Dr.alloc | apply Dr.drewN | apply Dr.drew)) (by decide) hd)
  clear HO
  have HO := n_
  clear n_
  have m_g1 := am_ (hd.2.2.blk (g' := g1) (o := .cells #[.int .i64 0, .int .i64 0] 35 (0, 0)) (by repeat first | exact BKg1.out | refine ka_ ?_ _ | refine kn_ ?_ _ | refine kd_ ?_) NGg1.out.symm (by simp))
  have k_ := am_ (Dr.trans (by repeat first | exact HD.out | apply Dr.alloc | apply Dr.drewN | apply Dr.drew) hd)
  clear hd HD HB BKg1
  have HD := k_
  clear k_
  have HB := am_ HD.out.below
  have BKg1 := m_g1
  clear m_g1
  go_wp2_with fail
  refine (one_c 8 (by decide) g code _ w _ HD.out.cur HB.out (by omega)).mono ?_
  rintro e w4 ⟨x, rfl, hd⟩
  have n_ := am_ (R_dr flat_Tranche (by (with_reducible repeat first | apply ra_ | apply rn_ | apply rd_); exact HO.out) (Dr.cur (by repeat first | exact HD.out | apply Dr.alloc | apply Dr.drewN | apply Dr.drew)) (by decide) hd)
  clear HO
  have HO := n_
  clear n_
  have m_g1 := am_ (hd.2.2.blk (g' := g1) (o := .cells #[.int .i64 0, .int .i64 0] 35 (0, 0)) (by repeat first | exact BKg1.out | refine ka_ ?_ _ | refine kn_ ?_ _ | refine kd_ ?_) NGg1.out.symm (by simp))
  have k_ := am_ (Dr.trans (by repeat first | exact HD.out | apply Dr.alloc | apply Dr.drewN | apply Dr.drew) hd)
  clear hd HD HB BKg1
  have HD := k_
  clear k_
  have HB := am_ HD.out.below
  have BKg1 := m_g1
  clear m_g1
  cases x with
  | true =>
    go_wp2_with fail
    refine (anyFraction_c g code _ w _ HD.out.cur HB.out (by omega)).mono ?_
    rintro e w5 ⟨n, d, rfl, hd⟩
    have n_ := am_ (R_dr flat_Tranche (by (with_reducible repeat first | apply ra_ | apply rn_ | apply rd_); exact HO.out) (Dr.cur (by repeat first | exact HD.out | apply Dr.alloc | apply Dr.drewN | apply Dr.drew)) (by decide) hd)
    clear HO
    have HO := n_
    clear n_
    have m_g1 := am_ (hd.2.2.blk (g' := g1) (o := .cells #[.int .i64 0, .int .i64 0] 35 (0, 0)) (by repeat first | exact BKg1.out | refine ka_ ?_ _ | refine kn_ ?_ _ | refine kd_ ?_) NGg1.out.symm (by simp))
    have k_ := am_ (Dr.trans (by repeat first | exact HD.out | apply Dr.alloc | apply Dr.drewN | apply Dr.drew) hd)
    clear hd HD HB BKg1
    have HD := k_
    clear k_
    have HB := am_ HD.out.below
    have BKg1 := m_g1
    clear m_g1
    have NO := am_ (own_ne HO.out BKg1.out (by decide))
    have yg1_0 : w5.cell? ⟨g1, 0, none⟩ = some (.int .i64 0) := (blk_cell BKg1.out 0).trans rfl; have fg1_0 := blk_frozen BKg1.out 0; have yg1_1 : w5.cell? ⟨g1, 1, none⟩ = some (.int .i64 0) := (blk_cell BKg1.out 1).trans rfl; have fg1_1 := blk_frozen BKg1.out 1
    go_wp2
    refine bodyPost_ret (results_list (rs := [.tmp 2, .tmp 3, .cell 4 35]) rfl (by simp) (.tmp (.tmp (.cell g1 35 #[.int .i64 n, .int .i64 d] (0, 0) _ rfl (by (with_reducible repeat first | refine kn_ ?_ _ | refine kd_ ?_ | refine ka_ ?_ _); refine blk_put (cs := #[.int .i64 n, .int .i64 0]) ?_ 1 _ rfl; (with_reducible repeat first | refine kn_ ?_ _ | refine kd_ ?_ | refine ka_ ?_ _); refine blk_put (cs := #[.int .i64 0, .int .i64 0]) ?_ 0 _ rfl; (with_reducible repeat first | refine kn_ ?_ _ | refine kd_ ?_ | refine ka_ ?_ _); exact BKg1.out) Try.underlying35 rfl (by kernel_rfl) .nil)))) rfl ?_
    exact ⟨v, xs, cash, _, _, rfl, (by (with_reducible repeat first | apply ra_ | apply rn_ | apply rd_ | refine R_offT ?_ NO.out _ _); exact HO.out), HL.out, HX.out, (by repeat first | (with_reducible first | exact HB.out | apply ba_ | apply bn_ | apply bd_ | refine below_set ?_ GEg1.out) | exact HB.out)⟩
  | false =>
    go_wp2_with fail
    refine (among_c [1, 5, 12, 3, 1] w4.heap.size 5 5 (by decide) g code _ w _ (HD.out.alloc _).cur (ba_ HB.out _) (by omega) (blk_new _ _)).mono ?_
    rintro e w5 ⟨p, rfl, hp, hd⟩
    have n_ := am_ (R_dr flat_Tranche (by (with_reducible repeat first | apply ra_ | apply rn_ | apply rd_); exact HO.out) (Dr.cur (by repeat first | exact HD.out | apply Dr.alloc | apply Dr.drewN | apply Dr.drew)) (by decide) hd)
    clear HO
    have HO := n_
    clear n_
    have m_g1 := am_ (hd.2.2.blk (g' := g1) (o := .cells #[.int .i64 0, .int .i64 0] 35 (0, 0)) (by repeat first | exact BKg1.out | refine ka_ ?_ _ | refine kn_ ?_ _ | refine kd_ ?_) NGg1.out.symm (by simp))
    have k_ := am_ (Dr.trans (by repeat first | exact HD.out | apply Dr.alloc | apply Dr.drewN | apply Dr.drew) hd)
    clear hd HD HB BKg1
    have HD := k_
    clear k_
    have HB := am_ HD.out.below
    have BKg1 := m_g1
    clear m_g1
    go_wp2_with fail
    refine (among_c [1, 4, 10] w5.heap.size 3 3 (by decide) g code _ w _ (HD.out.alloc _).cur (ba_ HB.out _) (by omega) (blk_new _ _)).mono ?_
    rintro e w6 ⟨q, rfl, hq, hd⟩
    have n_ := am_ (R_dr flat_Tranche (by (with_reducible repeat first | apply ra_ | apply rn_ | apply rd_); exact HO.out) (Dr.cur (by repeat first | exact HD.out | apply Dr.alloc | apply Dr.drewN | apply Dr.drew)) (by decide) hd)
    clear HO
    have HO := n_
    clear n_
    have m_g1 := am_ (hd.2.2.blk (g' := g1) (o := .cells #[.int .i64 0, .int .i64 0] 35 (0, 0)) (by repeat first | exact BKg1.out | refine ka_ ?_ _ | refine kn_ ?_ _ | refine kd_ ?_) NGg1.out.symm (by simp))
    have k_ := am_ (Dr.trans (by repeat first | exact HD.out | apply Dr.alloc | apply Dr.drewN | apply Dr.drew) hd)
    clear hd HD HB BKg1
    have HD := k_
    clear k_
    have HB := am_ HD.out.below
    have BKg1 := m_g1
    clear m_g1
    have hp2 : 1 ≤ p ∧ p ≤ 12 := by simp at hp; omega
    have hq2 : 1 ≤ q ∧ q ≤ 10 := by simp at hq; omega
    obtain ⟨kR, hR⟩ := roundsOf (specMake_ev p q (by omega) (by omega) (by omega))
    obtain ⟨FA, hFA⟩ : ∃ F, F = fracA p q := ⟨_, rfl⟩
    rw [← hFA] at hR
    clear hFA hp hq
    obtain ⟨n, d, ro⟩ := FA
    have HR := am_ hR
    clear hR
    go_wp2_with fail
    refine (spec_MakeFraction.calls kR p q n d ro _ HR.out).mono ?_
    rintro e w7 ⟨rfl, hb⟩
    have n_ := am_ (Kd.R_below (by (with_reducible repeat first | apply ra_ | apply rn_ | apply rd_); exact HO.out) hb)
    clear HO
    have HO := n_
    clear n_
    have m_g1 := am_ (blk_below (by repeat first | exact BKg1.out | refine blk_alloc ?_ _ | refine kn_ ?_ _ | refine kd_ ?_) hb)
    have k_ := am_ (Dr.bel (by repeat first | exact HD.out | apply Dr.alloc | apply Dr.drewN | apply Dr.drew) hb)
    clear hb HD HB BKg1
    have HD := k_
    clear k_
    have HB := am_ HD.out.below
    have BKg1 := m_g1
    clear m_g1
    have NO := am_ (own_ne HO.out BKg1.out (by decide))
    go_upto_region 7 with (fail)
    obtain ⟨W1, hW1⟩ : ∃ W1, W1 = w7.alloc (.cells #[.int .i64 n, .int .i64 d] 35) := ⟨_, rfl⟩
    have BKg3 := am_ (show W1.heap[w7.heap.size]? = some (.cells #[.int .i64 n, .int .i64 d] 35 (0, 0)) from by rw [hW1]; exact blk_new w7 _)
    have n1 := am_ (show W1.heap[g1]? = some (.cells #[.int .i64 0, .int .i64 0] 35 (0, 0)) from by rw [hW1]; exact blk_alloc BKg1.out _)
    have n2 := am_ (show Below w.heap.size w W1 from by rw [hW1]; exact below_alloc HB.out _)
    have n3 := am_ (show Kd.R k49 49 W1 w.heap.size (fun _ => True) v xs from by rw [hW1]; exact ra_ HO.out _)
    have hne : g1 ≠ w7.heap.size := Nat.ne_of_lt (blk_lt BKg1.out)
    rw [← hW1]
    clear hW1 HB BKg1 HO HD
    have HB := n2
    have BKg1 := n1
    have HO := n3
    clear n1 n2 n3
    generalize w7.heap.size = g3 at BKg3 hne ⊢
    have yg1_0 : W1.cell? ⟨g1, 0, none⟩ = some (.int .i64 0) := (blk_cell BKg1.out 0).trans rfl; have fg1_0 := blk_frozen BKg1.out 0; have yg1_1 : W1.cell? ⟨g1, 1, none⟩ = some (.int .i64 0) := (blk_cell BKg1.out 1).trans rfl; have fg1_1 := blk_frozen BKg1.out 1
    have yg3_0 : W1.cell? ⟨g3, 0, none⟩ = some (.int .i64 n) := (blk_cell BKg3.out 0).trans rfl; have fg3_0 := blk_frozen BKg3.out 0; have yg3_1 : W1.cell? ⟨g3, 1, none⟩ = some (.int .i64 d) := (blk_cell BKg3.out 1).trans rfl; have fg3_1 := blk_frozen BKg3.out 1
    have hne2 := Ne.symm hne
    go_region
    go_wp2
    refine bodyPost_ret (results_list (rs := [.tmp 2, .tmp 3, .cell 4 35]) rfl (by simp) (.tmp (.tmp (.cell g1 35 #[.int .i64 n, .int .i64 d] (0, 0) _ rfl (by (with_reducible repeat first | refine kn_ ?_ _ | refine kd_ ?_ | refine ka_ ?_ _); refine blk_put (cs := #[.int .i64 n, .int .i64 0]) ?_ 1 _ rfl; (with_reducible repeat first | refine kn_ ?_ _ | refine kd_ ?_ | refine ka_ ?_ _); refine blk_put (cs := #[.int .i64 0, .int .i64 0]) ?_ 0 _ rfl; (with_reducible repeat first | refine kn_ ?_ _ | refine kd_ ?_ | refine ka_ ?_ _); exact BKg1.out) Try.underlying35 rfl (by kernel_rfl) .nil)))) rfl ?_
    exact ⟨v, xs, cash, _, _, rfl, (by (with_reducible repeat first | apply ra_ | apply rn_ | apply rd_ | refine R_offT ?_ NO.out _ _); exact HO.out), HL.out, HX.out, (by repeat first | (with_reducible first | exact HB.out | apply ba_ | apply bn_ | apply bd_ | refine below_set ?_ GEg1.out) | exact HB.out)⟩
end Go.Proofs.Ytbnhpkkkijjkkaa.O
