/- Walks of our own, a part of those for the law FnMargin: each function's contract in plain Lean. No condition beyond the bounds that each contract names. -/
import Derived.Test.YtiaakolalhdelaaPureFnMargin
import Derived.Shelf.SlicesE.IndexFunc
import Derived.Shelf.SlLaysH
import Derived.Test.YtiaakolalhdelaaOFnMargina
namespace Go.Proofs.Ytiaakolalhdelaa.O
open Go.RowKit Go.Proofs.YtiaakolalhdelaaW.PrintWords Go.Proofs.YtiaakolalhdelaaW.PrintLast Go.Proofs.YtiaakolalhdelaaW.PrintMore Go.Proofs.Ytiaakolalhdelaa.PL17M Go.Proofs.Ytiaakolalhdelaa.EvKit Go.Proofs.Ytiaakolalhdelaa.Pure
set_option linter.unusedVariables false
set_option linter.unusedSimpArgs false
attribute [local go_sem] max2_int min2_int max_two min_two max_three min_three max_four min_four
theorem R_offI {base : Nat} {w : World} {v : Value} {xs : List Int} (h : (Kd.int .i64).R 3 w base (fun _ => True) v xs) {g : Nat} (hd : some g ≠ v.ownBlock) (j : Nat) (u : Value) : (Kd.int .i64).R 3 (w.setCell ⟨g, j, none⟩ u) base (fun _ => True) v xs :=
  Kd.R_mono (Kd.R_far (p := ⟨g, j, none⟩) (R_flat flat_int h (fun k hk => (fun e : k = g => hd (by rw [← e]; exact hk.symm) : k ≠ g))) (fun k hk => hk) u) (fun _ _ => trivial)
set_option maxHeartbeats 16000000 in
set_option maxRecDepth 100000 in
theorem drawCall_c (A : Option Addr) (c : Nat) (code : List Int) (w : World) (hr : (Kd.int .u8).C w A code.length code) (hx : ∀ x ∈ code, 0 ≤ x ∧ x ≤ 255) :
    Calls Try.prog 41 #[.slice A code.length c] w fun e w' => ∃ x h i s m r, e = .returned (.tuple #[.int .i64 x, .int .i64 h, .agg #[.int .i64 i, .int .i64 s, .int .i64 m, .int .i64 r]]) ∧ Below w.heap.size w w' := by
  go_enter Try.func41, Try.ntmps41
  go_wp2_with fail
  obtain ⟨W1, hW1⟩ : ∃ W1, W1 = w.alloc (.cells #[.int .i64 0, .int .i64 0, .int .i64 0, .int .i64 0] 26) := ⟨_, rfl⟩
  have BK0 := am_ (show W1.heap[w.heap.size]? = some (.cells #[.int .i64 0, .int .i64 0, .int .i64 0, .int .i64 0] 26 (0, 0)) from by rw [hW1]; exact blk_new w _)
  have hsz : W1.heap.size = w.heap.size + 1 := by rw [hW1]; exact Array.size_push _
  have HB1 := am_ (show Below w.heap.size w W1 from by rw [hW1]; exact ba_ (Below.refl _ _) _)
  have hcur := am_ (Cur.new (w0 := w) (w := W1) (c := c) HB1.out hr hx)
  rw [← hW1]
  clear hW1 hr hx
  obtain ⟨g1, hgE1⟩ : ∃ g, g = w.heap.size := ⟨_, rfl⟩
  have GEg1 := am_ (show w.heap.size ≤ g1 from by omega)
  rw [← hgE1] at BK0 hsz ⊢
  clear hgE1
  obtain ⟨g, hgE⟩ : ∃ g, g = g1 + 1 := ⟨_, rfl⟩
  have NGg1 := am_ (show g ≠ g1 from by omega)
  rw [hsz, ← hgE] at hcur
  rw [← hgE]
  clear hgE hsz
  refine (exposure_c g code 0 w _ hcur.out (ba_ HB1.out _) (by omega)).mono ?_
  rintro e w2 ⟨x, rfl, hd⟩
  have BKg1 := am_ (hd.2.2.blk (g' := g1) (o := .cells #[.int .i64 0, .int .i64 0, .int .i64 0, .int .i64 0] 26 (0, 0)) (blk_alloc BK0.out _) NGg1.out.symm (by simp))
  have HD := am_ hd
  have HB := am_ hd.below
  clear hd BK0 HB1 hcur
  go_wp2_with fail
  refine (pick_c 40 (by decide) g code _ w _ (HD.out.alloc _).cur (ba_ HB.out _) (by omega)).mono ?_
  rintro e w3 ⟨v, rfl, ⟨v0, v1⟩, hd⟩
  have HBK := am_ (hd.2.2.blk (g' := w2.heap.size) (o := .cells (numsA [0, 0, 1000, 5049, 99999, 1000000000, -1]) 3 (0, 0)) (blk_new w2 _) (Nat.ne_of_gt (Cur.lt HD.out.cur)) (by simp))
  have v2 := v1 (by decide)
  clear v1
  have m_g1 := am_ (hd.2.2.blk (g' := g1) (o := .cells #[.int .i64 0, .int .i64 0, .int .i64 0, .int .i64 0] 26 (0, 0)) (by repeat first | exact BKg1.out | refine ka_ ?_ _ | refine kn_ ?_ _ | refine kd_ ?_) NGg1.out.symm (by simp))
  have k_ := am_ (Dr.trans (by repeat first | exact HD.out | apply Dr.alloc | apply Dr.drewN | apply Dr.drew) hd)
  clear hd HD HB BKg1
  have HD := k_
  clear k_
  have HB := am_ HD.out.below
  have BKg1 := m_g1
  clear m_g1
  generalize w2.heap.size = b at HBK ⊢
  by_cases c0 : v < 39
  · have q1 : v.tdiv 39 = 0 := by rw [Int.tdiv_eq_ediv_of_nonneg v0]; omega
    have q2 : v / 39 = 0 := by omega
    go_wp2_with fail
    refine (among_c [0, 0, 1000, 5049, 99999, 1000000000, -1] b 6 7 (by decide) g code _ w _ HD.out.cur HB.out (by omega) HBK.out).mono ?_
    rintro e w4 ⟨h, rfl, _, hd⟩
    clear q1 q2 v0 v2
    have m_g1 := am_ (hd.2.2.blk (g' := g1) (o := .cells #[.int .i64 0, .int .i64 0, .int .i64 0, .int .i64 0] 26 (0, 0)) (by repeat first | exact BKg1.out | refine ka_ ?_ _ | refine kn_ ?_ _ | refine kd_ ?_) NGg1.out.symm (by simp))
    have k_ := am_ (Dr.trans (by repeat first | exact HD.out | apply Dr.alloc | apply Dr.drewN | apply Dr.drew) hd)
    clear hd HD HB BKg1
    have HD := k_
    clear k_
    have HB := am_ HD.out.below
    have BKg1 := m_g1
    clear m_g1
    clear HBK
    go_wp2_with fail
    refine (margin_c g code _ w _ HD.out.cur HB.out (by omega)).mono ?_
    rintro e w5 ⟨i, s, m, r, rfl, hd⟩
    have m_g1 := am_ (hd.2.2.blk (g' := g1) (o := .cells #[.int .i64 0, .int .i64 0, .int .i64 0, .int .i64 0] 26 (0, 0)) (by repeat first | exact BKg1.out | refine ka_ ?_ _ | refine kn_ ?_ _ | refine kd_ ?_) NGg1.out.symm (by simp))
    have k_ := am_ (Dr.trans (by repeat first | exact HD.out | apply Dr.alloc | apply Dr.drewN | apply Dr.drew) hd)
    clear hd HD HB BKg1
    have HD := k_
    clear k_
    have HB := am_ HD.out.below
    have BKg1 := m_g1
    clear m_g1
    have yg1_0 : w5.cell? ⟨g1, 0, none⟩ = some (.int .i64 0) := (blk_cell BKg1.out 0).trans rfl; have fg1_0 := blk_frozen BKg1.out 0; have yg1_1 : w5.cell? ⟨g1, 1, none⟩ = some (.int .i64 0) := (blk_cell BKg1.out 1).trans rfl; have fg1_1 := blk_frozen BKg1.out 1; have yg1_2 : w5.cell? ⟨g1, 2, none⟩ = some (.int .i64 0) := (blk_cell BKg1.out 2).trans rfl; have fg1_2 := blk_frozen BKg1.out 2; have yg1_3 : w5.cell? ⟨g1, 3, none⟩ = some (.int .i64 0) := (blk_cell BKg1.out 3).trans rfl; have fg1_3 := blk_frozen BKg1.out 3
    go_wp2
    refine bodyPost_ret (results_list (rs := [.tmp 2, .tmp 3, .cell 4 26]) rfl (by simp) (.tmp (.tmp (.cell g1 26 #[.int .i64 i, .int .i64 s, .int .i64 m, .int .i64 r] (0, 0) _ rfl (by (with_reducible repeat first | refine kn_ ?_ _ | refine kd_ ?_ | refine ka_ ?_ _); refine blk_put (cs := #[.int .i64 i, .int .i64 s, .int .i64 m, .int .i64 0]) ?_ 3 _ rfl; (with_reducible repeat first | refine kn_ ?_ _ | refine kd_ ?_ | refine ka_ ?_ _); refine blk_put (cs := #[.int .i64 i, .int .i64 s, .int .i64 0, .int .i64 0]) ?_ 2 _ rfl; (with_reducible repeat first | refine kn_ ?_ _ | refine kd_ ?_ | refine ka_ ?_ _); refine blk_put (cs := #[.int .i64 i, .int .i64 0, .int .i64 0, .int .i64 0]) ?_ 1 _ rfl; (with_reducible repeat first | refine kn_ ?_ _ | refine kd_ ?_ | refine ka_ ?_ _); refine blk_put (cs := #[.int .i64 0, .int .i64 0, .int .i64 0, .int .i64 0]) ?_ 0 _ rfl; (with_reducible repeat first | refine kn_ ?_ _ | refine kd_ ?_ | refine ka_ ?_ _); exact BKg1.out) Try.underlying26 rfl (by kernel_rfl) .nil)))) rfl ?_
    exact ⟨x, h, i, s, m, r, rfl, (by repeat first | (with_reducible first | exact HB.out | apply ba_ | apply bn_ | apply bd_ | refine below_set ?_ GEg1.out) | exact HB.out)⟩
  · have q1 : v.tdiv 39 = 1 := by rw [Int.tdiv_eq_ediv_of_nonneg v0]; omega
    have q2 : v / 39 = 1 := by omega
    go_wp2_with fail
    refine (among_c [0, 0, 1000, 5049, 99999, 1000000000, -1] b 7 7 (by decide) g code _ w _ HD.out.cur HB.out (by omega) HBK.out).mono ?_
    rintro e w4 ⟨h, rfl, _, hd⟩
    clear q1 q2 v0 v2
    have m_g1 := am_ (hd.2.2.blk (g' := g1) (o := .cells #[.int .i64 0, .int .i64 0, .int .i64 0, .int .i64 0] 26 (0, 0)) (by repeat first | exact BKg1.out | refine ka_ ?_ _ | refine kn_ ?_ _ | refine kd_ ?_) NGg1.out.symm (by simp))
    have k_ := am_ (Dr.trans (by repeat first | exact HD.out | apply Dr.alloc | apply Dr.drewN | apply Dr.drew) hd)
    clear hd HD HB BKg1
    have HD := k_
    clear k_
    have HB := am_ HD.out.below
    have BKg1 := m_g1
    clear m_g1
    clear HBK
    go_wp2_with fail
    refine (margin_c g code _ w _ HD.out.cur HB.out (by omega)).mono ?_
    rintro e w5 ⟨i, s, m, r, rfl, hd⟩
    have m_g1 := am_ (hd.2.2.blk (g' := g1) (o := .cells #[.int .i64 0, .int .i64 0, .int .i64 0, .int .i64 0] 26 (0, 0)) (by repeat first | exact BKg1.out | refine ka_ ?_ _ | refine kn_ ?_ _ | refine kd_ ?_) NGg1.out.symm (by simp))
    have k_ := am_ (Dr.trans (by repeat first | exact HD.out | apply Dr.alloc | apply Dr.drewN | apply Dr.drew) hd)
    clear hd HD HB BKg1
    have HD := k_
    clear k_
    have HB := am_ HD.out.below
    have BKg1 := m_g1
    clear m_g1
    have yg1_0 : w5.cell? ⟨g1, 0, none⟩ = some (.int .i64 0) := (blk_cell BKg1.out 0).trans rfl; have fg1_0 := blk_frozen BKg1.out 0; have yg1_1 : w5.cell? ⟨g1, 1, none⟩ = some (.int .i64 0) := (blk_cell BKg1.out 1).trans rfl; have fg1_1 := blk_frozen BKg1.out 1; have yg1_2 : w5.cell? ⟨g1, 2, none⟩ = some (.int .i64 0) := (blk_cell BKg1.out 2).trans rfl; have fg1_2 := blk_frozen BKg1.out 2; have yg1_3 : w5.cell? ⟨g1, 3, none⟩ = some (.int .i64 0) := (blk_cell BKg1.out 3).trans rfl; have fg1_3 := blk_frozen BKg1.out 3
    go_wp2
    refine bodyPost_ret (results_list (rs := [.tmp 2, .tmp 3, .cell 4 26]) rfl (by simp) (.tmp (.tmp (.cell g1 26 #[.int .i64 i, .int .i64 s, .int .i64 m, .int .i64 r] (0, 0) _ rfl (by (with_reducible repeat first | refine kn_ ?_ _ | refine kd_ ?_ | refine ka_ ?_ _); refine blk_put (cs := #[.int .i64 i, .int .i64 s, .int .i64 m, .int .i64 0]) ?_ 3 _ rfl; (with_reducible repeat first | refine kn_ ?_ _ | refine kd_ ?_ | refine ka_ ?_ _); refine blk_put (cs := #[.int .i64 i, .int .i64 s, .int .i64 0, .int .i64 0]) ?_ 2 _ rfl; (with_reducible repeat first | refine kn_ ?_ _ | refine kd_ ?_ | refine ka_ ?_ _); refine blk_put (cs := #[.int .i64 i, .int .i64 0, .int .i64 0, .int .i64 0]) ?_ 1 _ rfl; (with_reducible repeat first | refine kn_ ?_ _ | refine kd_ ?_ | refine ka_ ?_ _); refine blk_put (cs := #[.int .i64 0, .int .i64 0, .int .i64 0, .int .i64 0]) ?_ 0 _ rfl; (with_reducible repeat first | refine kn_ ?_ _ | refine kd_ ?_ | refine ka_ ?_ _); exact BKg1.out) Try.underlying26 rfl (by kernel_rfl) .nil)))) rfl ?_
    exact ⟨x, h, i, s, m, r, rfl, (by repeat first | (with_reducible first | exact HB.out | apply ba_ | apply bn_ | apply bd_ | refine below_set ?_ GEg1.out) | exact HB.out)⟩
set_option maxHeartbeats 16000000 in
set_option maxRecDepth 100000 in
theorem drawHist_c (A : Option Addr) (c : Nat) (code : List Int) (w : World) (hr : (Kd.int .u8).C w A code.length code) (hx : ∀ x ∈ code, 0 ≤ x ∧ x ≤ 255) :
    Calls Try.prog 42 #[.slice A code.length c] w fun e w' => ∃ v xs i s m r, e = .returned (.tuple #[v, .agg #[.int .i64 i, .int .i64 s, .int .i64 m, .int .i64 r]]) ∧ (Kd.int .i64).R 3 w' w.heap.size (fun _ => True) v xs ∧ xs.length ≤ 100 ∧ Below w.heap.size w w' := by
  go_enter Try.func42, Try.ntmps42
  go_upto_region 2 with (fail)
  obtain ⟨W1, hW1⟩ : ∃ W1, W1 = w.alloc (.cells #[.int .i64 0, .int .i64 0, .int .i64 0, .int .i64 0] 26) := ⟨_, rfl⟩
  have BK0 := am_ (show W1.heap[w.heap.size]? = some (.cells #[.int .i64 0, .int .i64 0, .int .i64 0, .int .i64 0] 26 (0, 0)) from by rw [hW1]; exact blk_new w _)
  have hsz : W1.heap.size = w.heap.size + 1 := by rw [hW1]; exact Array.size_push _
  have HB1 := am_ (show Below w.heap.size w W1 from by rw [hW1]; exact ba_ (Below.refl _ _) _)
  have hcur := am_ (Cur.new (w0 := w) (w := W1) (c := c) HB1.out hr hx)
  rw [← hW1]
  clear hW1 hr hx
  obtain ⟨g1, hgE1⟩ : ∃ g, g = w.heap.size := ⟨_, rfl⟩
  have GEg1 := am_ (show w.heap.size ≤ g1 from by omega)
  rw [← hgE1] at BK0 hsz ⊢
  clear hgE1
  obtain ⟨g, hgE⟩ : ∃ g, g = g1 + 1 := ⟨_, rfl⟩
  have NGg1 := am_ (show g ≠ g1 from by omega)
  rw [hsz, ← hgE] at hcur
  rw [← hgE]
  clear hgE hsz
  have HD := am_ (Dr.refl hcur.out (ba_ HB1.out _) (Int.le_refl 0))
  have HB := am_ HD.out.below
  have BKg1 := am_ (blk_alloc BK0.out (.cells #[.slice A code.length c, .int .i64 0, .int .u64 0] 78))
  clear BK0 HB1 hcur
  obtain ⟨wa, hwa⟩ : ∃ W, W = W1.alloc (.cells #[.slice A code.length c, .int .i64 0, .int .u64 0] 78) := ⟨_, rfl⟩
  rw [← hwa] at HD HB BKg1 ⊢
  clear hwa
  go_wp2_with (((with_reducible refine gate_dst (N := 10) rfl ?_); refine Kd.R_lit (Kd.int .i64) w.heap.size 3 (w0 := w) ?hg (N := 10) ?hd (xs := []) (inner := []) (ok := fun _ => True) (okp := fun _ => True) ?hr ?hp (fun _ hk => hk) trivial (by repeat first | (with_reducible first | exact HB.out | apply ba_ | apply bn_ | apply bd_) | exact HB.out) (below_size (by repeat first | (with_reducible first | exact HB.out | apply ba_ | apply bn_ | apply bd_) | exact HB.out)) (by simp) ?_; (case hd => rfl); (case hg => rfl); (case hr => first | (go_simp; done) | (go_simp; rfl)); (case hp => exact (Reps.none _ _)); intro v1 w1 ho hb hgr hnw); have HO := am_ ho; have HL := am_ (Late.lit HD.out.size hnw); have n_ := am_ (HD.out.lit hgr hb); have m_ := am_ (blk_grown BKg1.out hgr (by simp)); clear HB HD BKg1; have HD := n_; have BKg1 := m_; have HB := am_ hb; clear n_ m_ ho hb hgr hnw)
  refine (pick_c 7 (by decide) g code _ w _ HD.out.cur HB.out (by omega)).mono ?_
  rintro e w2 ⟨n, rfl, ⟨n0, n1⟩, hd⟩
  have n7 := n1 (by decide)
  clear n1
  have n_ := am_ (R_dr flat_int (by (with_reducible repeat first | apply ra_ | apply rn_ | apply rd_); exact HO.out) (Dr.cur (by repeat first | exact HD.out | apply Dr.alloc | apply Dr.drewN | apply Dr.drew)) (by decide) hd)
  clear HO
  have HO := n_
  clear n_
  have m_g1 := am_ (hd.2.2.blk (g' := g1) (o := .cells #[.int .i64 0, .int .i64 0, .int .i64 0, .int .i64 0] 26 (0, 0)) (by repeat first | exact BKg1.out | refine ka_ ?_ _ | refine kn_ ?_ _ | refine kd_ ?_) NGg1.out.symm (by simp))
  have k_ := am_ (Dr.trans (by repeat first | exact HD.out | apply Dr.alloc | apply Dr.drewN | apply Dr.drew) hd)
  clear hd HD HB BKg1
  have HD := k_
  clear k_
  have HB := am_ HD.out.below
  have BKg1 := m_g1
  clear m_g1
  go_wp2_with fail
  go_loopw [5, 6] (fun v5 v6 wr => ∃ (n : Int) (out : List Int), v6 = .int .i64 n ∧ Aside0 (0 ≤ n ∧ n ≤ 7) ∧ Aside0 ((out.length : Int) + n ≤ 7) ∧ Aside0 ((Kd.int .i64).R 3 wr w.heap.size (fun _ => True) v5 out) ∧ Aside0 (Late wa v5) ∧ Aside0 (wr.heap[g1]? = some (.cells #[.int .i64 0, .int .i64 0, .int .i64 0, .int .i64 0] 26 (0, 0))) ∧ Aside0 (Dr w wa wr g code (20 - 2 * n))) (fun _ v6 _ => (intOf v6).toNat)
  case atStart => exact ⟨n, [], rfl, ⟨by omega⟩, ⟨by simp; omega⟩, ⟨(by (with_reducible repeat first | apply ra_ | apply rn_ | apply rd_); exact HO.out)⟩, HL, ⟨by repeat first | exact BKg1.out | refine ka_ ?_ _ | refine kn_ ?_ _ | refine kd_ ?_⟩, ⟨HD.out.more (by omega)⟩⟩
  case round =>
    clear HO HL HD HB BKg1 n0 n7
    obtain ⟨n, out, rfl, HN, HLN, HO, HL, BKg1, HD⟩ := hrel
    have HB := am_ HD.out.below
    have n0 := HN.out.1
    have n7 := HN.out.2
    have hol := HLN.out
    by_cases hn : 0 < n
    · have c1 : decide (0 < n) = true := decide_eq_true hn
      go_wp2_with fail
      refine (exposure_c g code _ w _ HD.out.cur HB.out (by omega)).mono ?_
      rintro e w3 ⟨x, rfl, hd⟩
      have n_ := am_ (R_dr flat_int (by (with_reducible repeat first | apply ra_ | apply rn_ | apply rd_); exact HO.out) (Dr.cur (by repeat first | exact HD.out | apply Dr.alloc | apply Dr.drewN | apply Dr.drew)) (by decide) hd)
      clear HO
      have HO := n_
      clear n_
      have m_g1 := am_ (hd.2.2.blk (g' := g1) (o := .cells #[.int .i64 0, .int .i64 0, .int .i64 0, .int .i64 0] 26 (0, 0)) (by repeat first | exact BKg1.out | refine ka_ ?_ _ | refine kn_ ?_ _ | refine kd_ ?_) NGg1.out.symm (by simp))
      have k_ := am_ (Dr.trans (by repeat first | exact HD.out | apply Dr.alloc | apply Dr.drewN | apply Dr.drew) hd)
      clear hd HD HB BKg1
      have HD := k_
      clear k_
      have HB := am_ HD.out.below
      have BKg1 := m_g1
      clear m_g1
      go_wp2_with (((with_reducible refine gate_builtin (b := .append) (xs := #[.tmp 17, .tmp 20]) rfl ?_); at_builtin; refine Kd.R_append (Kd.int .i64) (w0 := w) w.heap.size rfl (.tmp 17) (.tmp 20) 39 3 (.int .i64 0) 8 rfl Try.underlying39 infoI rfl (by decide) (by omega) u5 out x [.int .i64 x] (fun _ => True) (fun _ => False) rfl rfl ?aP (fun _ hk => hk.elim) ?aF ?aO ?aB ?aS ?aL ?_; (case aP => exact rfl); (case aB => exact (by repeat first | (with_reducible first | exact HB.out | apply ba_ | apply bn_ | apply bd_) | exact HB.out)); (case aF => exact (fun _ _ => trivial)); (case aO => exact (by (with_reducible repeat first | apply ra_ | apply rn_ | apply rd_); exact HO.out)); (case aS => exact (below_size (by repeat first | (with_reducible first | exact HB.out | apply ba_ | apply bn_ | apply bd_) | exact HB.out))); (case aL => omega); intro v1 w1 ho hb hg hat); have n_ := am_ ho; have l_ := am_ (HL.out.app HD.out.size hat); have m_ := am_ (blk_grown BKg1.out hg (own_ne HO.out BKg1.out (by decide))); have k_ := am_ (HD.out.grown hg HL.out hb (own_cur HO.out HD.out.cur (by decide))); clear HO HL HD HB BKg1; have HO := n_; have HL := l_; have BKg1 := m_; have HD := k_; have HB := am_ hb; clear n_ l_ k_ m_ ho hb hg hat)
      go_roundw
      case rel => exact ⟨n - 1, out ++ [x], by go_num, ⟨by omega⟩, ⟨by rw [List.length_append, List.length_singleton]; push_cast; omega⟩, ⟨(by (with_reducible repeat first | apply ra_ | apply rn_ | apply rd_); exact HO.out)⟩, HL, ⟨by repeat first | exact BKg1.out | refine ka_ ?_ _ | refine kn_ ?_ _ | refine kd_ ?_⟩, ⟨HD.out.more (by omega)⟩⟩
      case measure => simp [intOf]; omega
    · have c1 : decide (0 < n) = false := decide_eq_false hn
      have HOL := am_ (show out.length ≤ 7 from by omega)
      go_wp2_with fail
      refine (margin_c g code _ w _ HD.out.cur HB.out (by omega)).mono ?_
      rintro e w3 ⟨i, s, m, r, rfl, hd⟩
      have n_ := am_ (R_dr flat_int (by (with_reducible repeat first | apply ra_ | apply rn_ | apply rd_); exact HO.out) (Dr.cur (by repeat first | exact HD.out | apply Dr.alloc | apply Dr.drewN | apply Dr.drew)) (by decide) hd)
      clear HO
      have HO := n_
      clear n_
      have m_g1 := am_ (hd.2.2.blk (g' := g1) (o := .cells #[.int .i64 0, .int .i64 0, .int .i64 0, .int .i64 0] 26 (0, 0)) (by repeat first | exact BKg1.out | refine ka_ ?_ _ | refine kn_ ?_ _ | refine kd_ ?_) NGg1.out.symm (by simp))
      have k_ := am_ (Dr.trans (by repeat first | exact HD.out | apply Dr.alloc | apply Dr.drewN | apply Dr.drew) hd)
      clear hd HD HB BKg1
      have HD := k_
      clear k_
      have HB := am_ HD.out.below
      have BKg1 := m_g1
      clear m_g1
      have NO := am_ (own_ne HO.out BKg1.out (by decide))
      have hol2 := HOL.out
      have yg1_0 : w3.cell? ⟨g1, 0, none⟩ = some (.int .i64 0) := (blk_cell BKg1.out 0).trans rfl; have fg1_0 := blk_frozen BKg1.out 0; have yg1_1 : w3.cell? ⟨g1, 1, none⟩ = some (.int .i64 0) := (blk_cell BKg1.out 1).trans rfl; have fg1_1 := blk_frozen BKg1.out 1; have yg1_2 : w3.cell? ⟨g1, 2, none⟩ = some (.int .i64 0) := (blk_cell BKg1.out 2).trans rfl; have fg1_2 := blk_frozen BKg1.out 2; have yg1_3 : w3.cell? ⟨g1, 3, none⟩ = some (.int .i64 0) := (blk_cell BKg1.out 3).trans rfl; have fg1_3 := blk_frozen BKg1.out 3
      go_wp2
      refine bodyPost_ret (results_list (rs := [.tmp 2, .cell 3 26]) rfl (by simp) (.tmp (.cell g1 26 #[.int .i64 i, .int .i64 s, .int .i64 m, .int .i64 r] (0, 0) _ rfl (by (with_reducible repeat first | refine kn_ ?_ _ | refine kd_ ?_ | refine ka_ ?_ _); refine blk_put (cs := #[.int .i64 i, .int .i64 s, .int .i64 m, .int .i64 0]) ?_ 3 _ rfl; (with_reducible repeat first | refine kn_ ?_ _ | refine kd_ ?_ | refine ka_ ?_ _); refine blk_put (cs := #[.int .i64 i, .int .i64 s, .int .i64 0, .int .i64 0]) ?_ 2 _ rfl; (with_reducible repeat first | refine kn_ ?_ _ | refine kd_ ?_ | refine ka_ ?_ _); refine blk_put (cs := #[.int .i64 i, .int .i64 0, .int .i64 0, .int .i64 0]) ?_ 1 _ rfl; (with_reducible repeat first | refine kn_ ?_ _ | refine kd_ ?_ | refine ka_ ?_ _); refine blk_put (cs := #[.int .i64 0, .int .i64 0, .int .i64 0, .int .i64 0]) ?_ 0 _ rfl; (with_reducible repeat first | refine kn_ ?_ _ | refine kd_ ?_ | refine ka_ ?_ _); exact BKg1.out) Try.underlying26 rfl (by kernel_rfl) .nil))) rfl ?_
      exact ⟨u5, out, i, s, m, r, rfl, R_offI (R_offI (R_offI (R_offI HO.out NO.out 0 _) NO.out 1 _) NO.out 2 _) NO.out 3 _, by omega, (by repeat first | (with_reducible first | exact HB.out | apply ba_ | apply bn_ | apply bd_ | refine below_set ?_ GEg1.out) | exact HB.out)⟩
end Go.Proofs.Ytiaakolalhdelaa.O
