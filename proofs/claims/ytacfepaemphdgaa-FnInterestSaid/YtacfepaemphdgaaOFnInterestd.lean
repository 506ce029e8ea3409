/- Walks of our own, a part of those for the law FnInterest: each function's contract in plain Lean. No condition beyond the bounds that each contract names. -/
import Derived.Test.YtacfepaemphdgaaPureFnInterest
import Derived.Test.YtacfepaemphdgaaOFnInteresta
import Derived.Test.YtacfepaemphdgaaOFnInterestb
import Derived.Test.YtacfepaemphdgaaOFnInterestc
namespace Go.Proofs.Ytacfepaemphdgaa.O
open Go.RowKit Go.Proofs.YtacfepaemphdgaaW.PrintWords Go.Proofs.YtacfepaemphdgaaW.PrintLast Go.Proofs.YtacfepaemphdgaaW.PrintMore Go.Proofs.Ytacfepaemphdgaa.PL15I Go.Proofs.Ytacfepaemphdgaa.EvKit Go.Proofs.Ytacfepaemphdgaa.Pure
set_option linter.unusedVariables false
set_option linter.unusedSimpArgs false
attribute [local go_sem] max2_int min2_int max_two min_two max_three min_three max_four min_four
set_option maxHeartbeats 16000000 in
set_option maxRecDepth 100000 in
theorem one_c (n : Int) (hn : 1 ≤ n ∧ n ≤ 200) (g : Nat) (code : List Int) (B : Int) (w wa : World) (hI : Cur w wa g code B) (hB : Below w.heap.size w wa) (hb : B ≤ 800000000000) :
    Calls Try.prog 100 #[.pointer (some ⟨g, 0, none⟩), .int .i64 n] wa fun e w' => ∃ x : Bool, e = .returned (.bool x) ∧ Dr w wa w' g code (B + 1) := by
  have HD := am_ (Dr.refl hI hB (Int.le_refl B))
  have HB := am_ hB
  clear hI hB
  go_enter Try.func100, Try.ntmps100
  go_wp2_with fail
  refine (pick_c n hn.2 g code _ w _ HD.out.cur HB.out (by omega)).mono ?_
  rintro e w2 ⟨v, rfl, _, hd⟩
  have k_ := am_ (Dr.trans (by repeat first | exact HD.out | apply Dr.alloc | apply Dr.drewN | apply Dr.drew) hd)
  clear hd HD HB
  have HD := k_
  clear k_
  have HB := am_ HD.out.below
  by_cases hv : v = 0
  · have q1 : (v == 0) = true := by simp [hv]
    have q2 : decide (v = 0) = true := decide_eq_true hv
    clear hv
    go_wp2
    go_ret
    exact ⟨true, rfl, HD.out.more (by omega)⟩
  · have q1 : (v == 0) = false := by simp [hv]
    have q2 : decide (v = 0) = false := decide_eq_false hv
    clear hv
    go_wp2
    go_ret
    exact ⟨false, rfl, HD.out.more (by omega)⟩
set_option maxHeartbeats 16000000 in
set_option maxRecDepth 100000 in
theorem pickB_c (n : Int) (hn : 200 < n ∧ n ≤ 65536) (g : Nat) (code : List Int) (B : Int) (w wa : World) (hI : Cur w wa g code B) (hB : Below w.heap.size w wa) (hb : B ≤ 800000000000) :
    Calls Try.prog 115 #[.pointer (some ⟨g, 0, none⟩), .int .i64 n] wa fun e w' => ∃ v, e = .returned (.int .i64 v) ∧ (0 ≤ v ∧ v < n) ∧ Dr w wa w' g code (B + 2) := by
  have HD := am_ (Dr.refl hI hB (Int.le_refl B))
  have HB := am_ hB
  clear hI hB
  have c1 : decide (n ≤ 1) = false := decide_eq_false (by omega)
  have c2 : decide (200 < n) = true := decide_eq_true hn.1
  have hnz : ¬ n = 0 := by omega
  have n0 := hn.1
  have n1 := hn.2
  go_enter Try.func115, Try.ntmps115
  go_wp2_with fail
  refine (next_c g code _ w _ HD.out.cur HB.out (by omega)).mono ?_
  rintro e w1 ⟨x, rfl, hx, hc, hb1, hk⟩
  have hd : Dr w wa w1 g code (B + 1) := ⟨hc, hb1, HD.out.2.2.trans hk (.inl rfl)⟩
  have x0 := hx.1
  have x1 := hx.2
  clear HD HB hc hb1 hk hx
  have HD := am_ hd
  have HB := am_ hd.below
  clear hd
  go_wp2_with fail
  refine (next_c g code _ w _ HD.out.cur HB.out (by omega)).mono ?_
  rintro e w2 ⟨y, rfl, hy, hc, hb1, hk⟩
  have hd : Dr w wa w2 g code (B + 1 + 1) := ⟨hc, hb1, HD.out.2.2.trans hk (.inl rfl)⟩
  have y0 := hy.1
  have y1 := hy.2
  clear HD HB hc hb1 hk hy
  have HD := am_ hd
  have HB := am_ hd.below
  clear hd
  have hme : (x * 256 + y).tmod n = (x * 256 + y) % n := Int.tmod_eq_emod_of_nonneg (by omega)
  have hm : 0 ≤ (x * 256 + y) % n ∧ (x * 256 + y) % n < n := ⟨Int.emod_nonneg _ hnz, Int.emod_lt_of_pos _ (by omega)⟩
  have HM := am_ hm
  have hw : wrap64 ((x * 256 + y) % n) = (x * 256 + y) % n := wrapId (by omega)
  clear hm
  go_wp2
  go_ret
  exact ⟨_, rfl, HM.out, HD.out.more (by omega)⟩
theorem day_in (ls : List Int) (h : ls.all (fun x => decide (0 ≤ x ∧ x ≤ 36524)) = true) : ∀ x ∈ ls, 0 ≤ x ∧ x ≤ 36524 := fun x hx => of_decide_eq_true (List.all_eq_true.mp h x hx)
set_option maxHeartbeats 16000000 in
set_option maxRecDepth 100000 in
theorem day_c (g : Nat) (code : List Int) (B : Int) (w wa : World) (hI : Cur w wa g code B) (hB : Below w.heap.size w wa) (hb : B ≤ 700000000000) :
    Calls Try.prog 119 #[.pointer (some ⟨g, 0, none⟩)] wa fun e w' => ∃ x, e = .returned (.int .i64 x) ∧ (0 ≤ x ∧ x ≤ 36524) ∧ Dr w wa w' g code (B + 4) := by
  have HD := am_ (Dr.refl hI hB (Int.le_refl B))
  have HB := am_ hB
  clear hI hB
  go_enter Try.func119, Try.ntmps119
  go_wp2_with fail
  refine (pick_c 6 (by decide) g code _ w _ HD.out.cur HB.out (by omega)).mono ?_
  rintro e w1 ⟨v, rfl, ⟨v0, v1⟩, hd⟩
  have k_ := am_ (Dr.trans (by repeat first | exact HD.out | apply Dr.alloc | apply Dr.drewN | apply Dr.drew) hd)
  clear hd HD HB
  have HD := k_
  clear k_
  have HB := am_ HD.out.below
  clear v1
  by_cases e0 : v = 0
  · subst e0
    go_wp2_with fail
    refine (among_c [0, 59, 60, 365, 366, 424, 425, 36524, 36523, 30, 31] _ 11 11 (by decide) g code _ w _ (HD.out.alloc _).cur (ba_ HB.out _) (by omega) (blk_new _ _)).mono ?_
    rintro e w2 ⟨x, rfl, hx, hd⟩
    have HX := am_ (day_in [0, 59, 60, 365, 366, 424, 425, 36524, 36523, 30, 31] (by decide) x hx)
    clear hx
    have k_ := am_ (Dr.trans (Dr.alloc HD.out _) hd)
    clear hd HD HB
    have HD := k_
    clear k_
    have HB := am_ HD.out.below
    go_wp2
    go_ret
    exact ⟨x, rfl, HX.out, HD.out.more (by omega)⟩
  · have q0 : (v == 0) = false := by simp [e0]
    have z0 : decide (v = 0) = false := decide_eq_false e0
    by_cases e1 : v = 1
    · subst e1
      clear q0 z0 e0
      go_wp2_with fail
      refine (pickB_c 36525 (by decide) g code _ w _ HD.out.cur HB.out (by omega)).mono ?_
      rintro e w2 ⟨x, rfl, hx, hd⟩
      have HX := am_ hx
      clear hx
      have k_ := am_ (Dr.trans (by repeat first | exact HD.out | apply Dr.alloc | apply Dr.drewN | apply Dr.drew) hd)
      clear hd HD HB
      have HD := k_
      clear k_
      have HB := am_ HD.out.below
      go_wp2
      go_ret
      exact ⟨x, rfl, by have := HX.out; omega, HD.out.more (by omega)⟩
    · have q1 : (v == 1) = false := by simp [e1]
      have z1 : decide (v = 1) = false := decide_eq_false e1
      go_wp2_with fail
      refine (pickB_c 1500 (by decide) g code _ w _ HD.out.cur HB.out (by omega)).mono ?_
      rintro e w2 ⟨x, rfl, hx, hd⟩
      have HX := am_ hx
      clear hx
      have k_ := am_ (Dr.trans (by repeat first | exact HD.out | apply Dr.alloc | apply Dr.drewN | apply Dr.drew) hd)
      clear hd HD HB
      have HD := k_
      clear k_
      have HB := am_ HD.out.below
      go_wp2
      go_ret
      exact ⟨x, rfl, by have := HX.out; omega, HD.out.more (by omega)⟩
set_option maxHeartbeats 16000000 in
set_option maxRecDepth 100000 in
theorem near4_c (g : Nat) (code : List Int) (B : Int) (w wa : World) (hI : Cur w wa g code B) (hB : Below w.heap.size w wa) (hb : B ≤ 700000000000) :
    Calls Try.prog 97 #[.pointer (some ⟨g, 0, none⟩)] wa fun e w' => ∃ x, e = .returned (.int .i64 x) ∧ (-1000 ≤ x ∧ x ≤ 40000) ∧ Dr w wa w' g code (B + 10) := by
  have HD := am_ (Dr.refl hI hB (Int.le_refl B))
  have HB := am_ hB
  clear hI hB
  have HB0 := am_ HB.out
  go_enter Try.func97, Try.ntmps97
  go_wp2_with fail
  refine (day_c g code _ w _ HD.out.cur HB.out (by omega)).mono ?_
  rintro e w1 ⟨x, rfl, hx, hd⟩
  have HX := am_ hx
  clear hx
  have k_ := am_ (Dr.trans (by repeat first | exact HD.out | apply Dr.alloc | apply Dr.drewN | apply Dr.drew) hd)
  clear hd HD HB
  have HD := k_
  clear k_
  have HB := am_ HD.out.below
  go_wp2_with fail
  refine (one_c 3 (by decide) g code _ w _ HD.out.cur HB.out (by omega)).mono ?_
  rintro e w2 ⟨bb, rfl, hd⟩
  have k_ := am_ (Dr.trans (by repeat first | exact HD.out | apply Dr.alloc | apply Dr.drewN | apply Dr.drew) hd)
  clear hd HD HB
  have HD := k_
  clear k_
  have HB := am_ HD.out.below
  cases bb with
  | false =>
    go_wp2
    go_ret
    exact ⟨x, rfl, by have := HX.out; omega, HD.out.more (by omega)⟩
  | true =>
    obtain ⟨k1, hk1⟩ := roundsOf (specDateC_ev x HX.out)
    have HDT := am_ (dateC_is x HX.out)
    obtain ⟨DT, hDT⟩ : ∃ D, D = dateC x := ⟨_, rfl⟩
    rw [← hDT] at hk1 HDT
    clear hDT
    obtain ⟨y, m, d⟩ := DT
    have hy : 2000 ≤ y ∧ y ≤ 2099 := HDT.out.1
    have hm : 1 ≤ m ∧ m ≤ 12 := HDT.out.2.1
    have hdim := dim_bd y m
    have hdb := dby_bd y (by omega)
    have hcb := cum_bd y m
    obtain ⟨k2, hk2⟩ := roundsOf (l3Length_ev y m (by omega))
    obtain ⟨DMN, hDM⟩ : ∃ D, D = dimA y m := ⟨_, rfl⟩
    rw [← hDM] at hk2 hdim
    have HK1 := am_ hk1
    have HK2 := am_ hk2
    have HSD := am_ (fun p (hp : 0 ≤ p ∧ p ≤ 2) => specDay_ev y m (DMN - p) (by omega) (by omega) (by omega))
    have HXB := am_ (show ∀ p : Int, 0 ≤ p ∧ p ≤ 2 → -1000 ≤ dbyA y + cumA y m + (DMN - p) - 1 ∧ dbyA y + cumA y m + (DMN - p) - 1 ≤ 40000 from fun p hp => by omega)
    clear hk1 hk2 hDM HDT
    go_wp2_with fail
    refine (spec_l3Date.calls k1 x y m d _ HK1.out).mono ?_
    rintro e w3 ⟨rfl, hb⟩
    have k_ := am_ (Dr.bel (by repeat first | exact HD.out | apply Dr.alloc | apply Dr.drewN | apply Dr.drew) hb)
    clear hb HD HB
    have HD := k_
    clear k_
    have HB := am_ HD.out.below
    go_wp2_with fail
    have GA := am_ (show wa.heap.size ≤ w3.heap.size from HD.out.size)
    have NG := am_ (show g ≠ w3.heap.size from Nat.ne_of_lt (Cur.lt HD.out.cur))
    obtain ⟨W1, hW1⟩ : ∃ W1, W1 = w3.alloc (.cells #[.int .i64 y, .int .i64 m, .int .i64 d] 125) := ⟨_, rfl⟩
    have BK := am_ (show W1.heap[w3.heap.size]? = some (.cells #[.int .i64 y, .int .i64 m, .int .i64 d] 125 (0, 0)) from by rw [hW1]; exact blk_new w3 _)
    have k_ := am_ (show Dr w wa W1 g code _ from by rw [hW1]; exact Dr.alloc HD.out _)
    rw [← hW1]
    clear hW1 HD HB
    have HD := k_
    clear k_
    have HB := am_ HD.out.below
    generalize w3.heap.size = G at BK GA NG ⊢
    refine (spec_l3Length.calls k2 y m DMN _ HK2.out).mono ?_
    rintro e w4 ⟨rfl, hb0⟩
    have hb := db_ hb0
    clear hb0
    have BK2 := am_ (blk_below BK.out hb)
    have k_ := am_ (Dr.bel HD.out hb)
    clear hb HD HB BK
    have HD := k_
    have BK := BK2
    clear k_ BK2
    have HB := am_ HD.out.below
    go_wp2_with fail
    refine (pick_c 3 (by decide) g code _ w _ HD.out.cur HB.out (by omega)).mono ?_
    rintro e w5 ⟨p, rfl, ⟨p0, p1⟩, hd⟩
    have p2 := p1 (by decide)
    clear p1
    have BK2 := am_ (hd.2.2.blk (g' := G) (o := .cells #[.int .i64 y, .int .i64 m, .int .i64 d] 125 (0, 0)) BK.out NG.out.symm (by simp))
    have k_ := am_ (Dr.trans HD.out hd)
    clear hd HD HB BK
    have HD := k_
    have BK := BK2
    clear k_ BK2
    have HB := am_ HD.out.below
    have yk2 := (blk_cell BK.out 2).trans rfl
    have fk2 := blk_frozen BK.out 2
    go_upto_region 5 with (fail)
    clear yk2 fk2
    have BK2 := am_ (blk_put BK.out 2 (.int .i64 (DMN - p)) rfl)
    have k_ := am_ (Dr.set HD.out GA.out (below_size HB0.out) NG.out 2 (.int .i64 (DMN - p)))
    clear HD HB BK
    have HD := k_
    have BK := BK2
    clear k_ BK2
    have HB := am_ HD.out.below
    generalize w5.setCell ⟨G, 2, none⟩ (.int .i64 (DMN - p)) = w6 at HD HB BK ⊢
    have yk0 := (blk_cell BK.out 0).trans rfl
    have yk1 := (blk_cell BK.out 1).trans rfl
    have yk2 := (blk_cell BK.out 2).trans rfl
    obtain ⟨k3, hk3⟩ := roundsOf (HSD.out p ⟨p0, by omega⟩)
    have HK3 := am_ hk3
    have HXP := am_ (HXB.out p ⟨p0, by omega⟩)
    clear hk3
    go_wp2_with fail
    refine (spec_l3Day.calls k3 y m (DMN - p) _ _ HK3.out).mono ?_
    rintro e w7 ⟨rfl, hb⟩
    have k_ := am_ (Dr.bel HD.out hb)
    clear hb HD HB
    have HD := k_
    clear k_
    have HB := am_ HD.out.below
    go_wp2
    go_ret
    exact ⟨_, rfl, HXP.out, HD.out.more (by omega)⟩
set_option maxHeartbeats 16000000 in
set_option maxRecDepth 100000 in
theorem anyDay_c (g : Nat) (code : List Int) (B : Int) (w wa : World) (hI : Cur w wa g code B) (hB : Below w.heap.size w wa) (hb : B ≤ 600000000000) :
    Calls Try.prog 114 #[.pointer (some ⟨g, 0, none⟩)] wa fun e w' => ∃ x, e = .returned (.int .i64 x) ∧ Dr w wa w' g code (B + 5) := by
  have HD := am_ (Dr.refl hI hB (Int.le_refl B))
  have HB := am_ hB
  clear hI hB
  go_enter Try.func114, Try.ntmps114
  go_wp2_with fail
  refine (one_c 16 (by decide) g code _ w _ HD.out.cur HB.out (by omega)).mono ?_
  rintro e w2 ⟨bb, rfl, hd⟩
  have k_ := am_ (Dr.trans (by repeat first | exact HD.out | apply Dr.alloc | apply Dr.drewN | apply Dr.drew) hd)
  clear hd HD HB
  have HD := k_
  clear k_
  have HB := am_ HD.out.below
  cases bb with
  | true =>
    go_wp2_with fail
    refine (among_c [-1, 36524, 36525, 1099511627776] w2.heap.size 4 4 (by decide) g code _ w _ (HD.out.alloc _).cur (ba_ HB.out _) (by omega) (blk_new _ _)).mono ?_
    rintro e w3 ⟨x, rfl, _, hd⟩
    have k_ := am_ (Dr.trans (Dr.alloc HD.out _) hd)
    clear hd HD HB
    have HD := k_
    clear k_
    have HB := am_ HD.out.below
    go_wp2
    go_ret
    exact ⟨x, rfl, HD.out.more (by omega)⟩
  | false =>
    go_wp2_with fail
    refine (day_c g code _ w _ HD.out.cur HB.out (by omega)).mono ?_
    rintro e w3 ⟨x, rfl, _, hd⟩
    have k_ := am_ (Dr.trans (by repeat first | exact HD.out | apply Dr.alloc | apply Dr.drewN | apply Dr.drew) hd)
    clear hd HD HB
    have HD := k_
    clear k_
    have HB := am_ HD.out.below
    go_wp2
    go_ret
    exact ⟨x, rfl, HD.out.more (by omega)⟩
theorem in_bd (ls : List Int) (lo hi : Int) (h : ls.all (fun x => decide (lo ≤ x ∧ x ≤ hi)) = true) : ∀ x ∈ ls, lo ≤ x ∧ x ≤ hi := fun x hx => of_decide_eq_true (List.all_eq_true.mp h x hx)
set_option maxHeartbeats 16000000 in
set_option maxRecDepth 100000 in
theorem drawDC_c (A : Option Addr) (c : Nat) (code : List Int) (w : World) (hr : (Kd.int .u8).C w A code.length code) (hx : ∀ x ∈ code, 0 ≤ x ∧ x ≤ 255) :
    Calls Try.prog 89 #[.slice A code.length c] w fun e w' => ∃ a b k, e = .returned (.tuple #[.int .i64 a, .int .i64 b, .int .i64 k]) ∧ Below w.heap.size w w' := by
  have HC := am_ (fun hb => Cur.new (w0 := w) (w := w) (c := c) hb hr hx)
  clear hr hx
  go_enter Try.func89, Try.ntmps89
  go_wp2_with fail
  have HC1 := am_ (HC.out (Below.refl _ _))
  have HB1 := am_ (ba_ (Below.refl w.heap.size w) (.cells #[.slice A code.length c, .int .i64 0, .int .u64 0] 108))
  clear HC
  obtain ⟨wa, hwa⟩ : ∃ W, W = w.alloc (.cells #[.slice A code.length c, .int .i64 0, .int .u64 0] 108) := ⟨_, rfl⟩
  rw [← hwa] at HC1 HB1 ⊢
  clear hwa
  generalize w.heap.size = g at HC1 ⊢
  refine (near4_c g code 0 w _ HC1.out HB1.out (by omega)).mono ?_
  rintro e w2 ⟨a, rfl, ha, hd⟩
  have a0 := ha.1
  have a1 := ha.2
  have HD := am_ hd
  have HB := am_ hd.below
  clear hd ha HC1 HB1
  go_wp2_with fail
  refine (among_c [0, 1, 28, 30, 31, 59, 90, 181, 365, 366, 900, -1] w2.heap.size 12 12 (by decide) g code _ w _ (HD.out.alloc _).cur (ba_ HB.out _) (by omega) (blk_new _ _)).mono ?_
  rintro e w3 ⟨x, rfl, hx, hd⟩
  have hxb := in_bd [0, 1, 28, 30, 31, 59, 90, 181, 365, 366, 900, -1] (-1) 900 (by decide) x hx
  have x0 := hxb.1
  have x1 := hxb.2
  clear hx hxb
  have k_ := am_ (Dr.trans (Dr.alloc HD.out _) hd)
  clear hd HD HB
  have HD := k_
  clear k_
  have HB := am_ HD.out.below
  go_wp2_with fail
  refine (one_c 4 (by decide) g code _ w _ HD.out.cur HB.out (by omega)).mono ?_
  rintro e w4 ⟨bb, rfl, hd⟩
  have k_ := am_ (Dr.trans (by repeat first | exact HD.out | apply Dr.alloc | apply Dr.drewN | apply Dr.drew) hd)
  clear hd HD HB
  have HD := k_
  clear k_
  have HB := am_ HD.out.below
  cases bb with
  | false =>
    go_wp2_with fail
    refine (one_c 30 (by decide) g code _ w _ HD.out.cur HB.out (by omega)).mono ?_
    rintro e w6 ⟨b2, rfl, hd⟩
    have k_ := am_ (Dr.trans (by repeat first | exact HD.out | apply Dr.alloc | apply Dr.drewN | apply Dr.drew) hd)
    clear hd HD HB
    have HD := k_
    clear k_
    have HB := am_ HD.out.below
    cases b2 with
    | false =>
      go_wp2_with fail
      refine (among_c [1, 2, 3, 4, 1, 2, 3, 4, 0, 5] w6.heap.size 10 10 (by decide) g code _ w _ (HD.out.alloc _).cur (ba_ HB.out _) (by omega) (blk_new _ _)).mono ?_
      rintro e w9 ⟨k, rfl, _, hd⟩
      have k_ := am_ (Dr.trans (Dr.alloc HD.out _) hd)
      clear hd HD HB
      have HD := k_
      clear k_
      have HB := am_ HD.out.below
      go_wp2
      go_ret3
      exact ⟨a, a + x, k, rfl, (by repeat first | (with_reducible first | exact HB.out | apply ba_ | apply bn_ | apply bd_) | exact HB.out)⟩
    | true =>
      go_wp2_with fail
      refine (anyDay_c g code _ w _ HD.out.cur HB.out (by omega)).mono ?_
      rintro e w7 ⟨y, rfl, hd⟩
      have k_ := am_ (Dr.trans (by repeat first | exact HD.out | apply Dr.alloc | apply Dr.drewN | apply Dr.drew) hd)
      clear hd HD HB
      have HD := k_
      clear k_
      have HB := am_ HD.out.below
      go_wp2_with fail
      refine (among_c [1, 2, 3, 4, 1, 2, 3, 4, 0, 5] w7.heap.size 10 10 (by decide) g code _ w _ (HD.out.alloc _).cur (ba_ HB.out _) (by omega) (blk_new _ _)).mono ?_
      rintro e w9 ⟨k, rfl, _, hd⟩
      have k_ := am_ (Dr.trans (Dr.alloc HD.out _) hd)
      clear hd HD HB
      have HD := k_
      clear k_
      have HB := am_ HD.out.below
      go_wp2
      go_ret3
      exact ⟨a, y, k, rfl, (by repeat first | (with_reducible first | exact HB.out | apply ba_ | apply bn_ | apply bd_) | exact HB.out)⟩
  | true =>
    go_wp2_with fail
    refine (near4_c g code _ w _ HD.out.cur HB.out (by omega)).mono ?_
    rintro e w5 ⟨bq, rfl, hbb, hd⟩
    clear hbb
    have k_ := am_ (Dr.trans (by repeat first | exact HD.out | apply Dr.alloc | apply Dr.drewN | apply Dr.drew) hd)
    clear hd HD HB
    have HD := k_
    clear k_
    have HB := am_ HD.out.below
    go_wp2_with fail
    refine (one_c 30 (by decide) g code _ w _ HD.out.cur HB.out (by omega)).mono ?_
    rintro e w6 ⟨b2, rfl, hd⟩
    have k_ := am_ (Dr.trans (by repeat first | exact HD.out | apply Dr.alloc | apply Dr.drewN | apply Dr.drew) hd)
    clear hd HD HB
    have HD := k_
    clear k_
    have HB := am_ HD.out.below
    cases b2 with
    | false =>
      go_wp2_with fail
      refine (among_c [1, 2, 3, 4, 1, 2, 3, 4, 0, 5] w6.heap.size 10 10 (by decide) g code _ w _ (HD.out.alloc _).cur (ba_ HB.out _) (by omega) (blk_new _ _)).mono ?_
      rintro e w9 ⟨k, rfl, _, hd⟩
      have k_ := am_ (Dr.trans (Dr.alloc HD.out _) hd)
      clear hd HD HB
      have HD := k_
      clear k_
      have HB := am_ HD.out.below
      go_wp2
      go_ret3
      exact ⟨a, bq, k, rfl, (by repeat first | (with_reducible first | exact HB.out | apply ba_ | apply bn_ | apply bd_) | exact HB.out)⟩
    | true =>
      go_wp2_with fail
      refine (anyDay_c g code _ w _ HD.out.cur HB.out (by omega)).mono ?_
      rintro e w7 ⟨y, rfl, hd⟩
      have k_ := am_ (Dr.trans (by repeat first | exact HD.out | apply Dr.alloc | apply Dr.drewN | apply Dr.drew) hd)
      clear hd HD HB
      have HD := k_
      clear k_
      have HB := am_ HD.out.below
      go_wp2_with fail
      refine (among_c [1, 2, 3, 4, 1, 2, 3, 4, 0, 5] w7.heap.size 10 10 (by decide) g code _ w _ (HD.out.alloc _).cur (ba_ HB.out _) (by omega) (blk_new _ _)).mono ?_
      rintro e w9 ⟨k, rfl, _, hd⟩
      have k_ := am_ (Dr.trans (Dr.alloc HD.out _) hd)
      clear hd HD HB
      have HD := k_
      clear k_
      have HB := am_ HD.out.below
      go_wp2
      go_ret3
      exact ⟨a, y, k, rfl, (by repeat first | (with_reducible first | exact HB.out | apply ba_ | apply bn_ | apply bd_) | exact HB.out)⟩
set_option maxHeartbeats 16000000 in
set_option maxRecDepth 100000 in
theorem fraction_c (g : Nat) (code : List Int) (B : Int) (w wa : World) (hI : Cur w wa g code B) (hB : Below w.heap.size w wa) (hb : B ≤ 850000000000) :
    Calls Try.prog 129 #[.pointer (some ⟨g, 0, none⟩)] wa fun e w' => ∃ n d, e = .returned (.agg #[.int .i64 n, .int .i64 d]) ∧ Dr w wa w' g code (B + 2) := by
  have HD := am_ (Dr.refl hI hB (Int.le_refl B))
  have HB := am_ hB
  have HB0 := am_ hB
  have hgl := hI.lt
  clear hI hB
  go_enter Try.func129, Try.ntmps129
  go_wp2_with fail
  refine (pick_c 19 (by decide) g code _ w _ (HD.out.alloc _).cur (ba_ HB.out _) (by omega)).mono ?_
  rintro e w2 ⟨v, rfl, ⟨v0, v1⟩, hd⟩
  have v2 := v1 (by decide)
  clear v1
  have BKg1 := am_ (hd.2.2.blk (g' := wa.heap.size) (o := .cells #[.int .i64 0, .int .i64 0] 24 (0, 0)) (blk_new wa _) (Nat.ne_of_gt hgl) (by simp))
  have k_ := am_ ((HD.out.alloc _).trans hd)
  clear HD HB hd
  have HD := k_
  clear k_
  have HB := am_ HD.out.below
  obtain ⟨g1, hbE⟩ : ∃ b, b = wa.heap.size := ⟨_, rfl⟩
  have GAg1 := am_ (show wa.heap.size ≤ g1 from by omega)
  have NGg1 := am_ (show g ≠ g1 from by omega)
  rw [← hbE] at BKg1 ⊢
  clear hbE hgl
  go_wp2_with fail
  refine (pick_c 12 (by decide) g code _ w _ HD.out.cur HB.out (by omega)).mono ?_
  rintro e w3 ⟨u, rfl, ⟨u0, u1⟩, hd⟩
  have u2 := u1 (by decide)
  clear u1
  have m_g1 := am_ (hd.2.2.blk (g' := g1) (o := .cells #[.int .i64 0, .int .i64 0] 24 (0, 0)) (by repeat first | exact BKg1.out | refine ka_ ?_ _ | refine kn_ ?_ _ | refine kd_ ?_) NGg1.out.symm (by simp))
  have k_ := am_ (Dr.trans HD.out hd)
  clear hd HD HB BKg1
  have HD := k_
  clear k_
  have HB := am_ HD.out.below
  have BKg1 := m_g1
  clear m_g1
  obtain ⟨kR, hR⟩ := roundsOf (specReduce_ev (v - 6) (1 + u) (by omega) (by omega) (by omega))
  obtain ⟨FA, hFA⟩ : ∃ F, F = fracA (v - 6) (1 + u) := ⟨_, rfl⟩
  rw [← hFA] at hR
  clear hFA
  obtain ⟨rn, rd, ro⟩ := FA
  have HR := am_ hR
  clear hR
  go_wp2_with fail
  refine (spec_l2Reduce.calls kR (v - 6) (1 + u) rn rd ro _ HR.out).mono ?_
  rintro e w4 ⟨rfl, hb⟩
  have m_g1 := am_ (blk_below (by repeat first | exact BKg1.out | refine blk_alloc ?_ _ | refine kn_ ?_ _ | refine kd_ ?_) hb)
  have k_ := am_ (Dr.bel (by repeat first | exact HD.out | apply Dr.alloc | apply Dr.drewN | apply Dr.drew) hb)
  clear hb HD HB BKg1
  have HD := k_
  clear k_
  have HB := am_ HD.out.below
  have BKg1 := m_g1
  clear m_g1
  go_upto_region 2 with (fail)
  obtain ⟨W1, hW1⟩ : ∃ W1, W1 = w4.alloc (.cells #[.int .i64 rn, .int .i64 rd] 24) := ⟨_, rfl⟩
  have BKg3 := am_ (show W1.heap[w4.heap.size]? = some (.cells #[.int .i64 rn, .int .i64 rd] 24 (0, 0)) from by rw [hW1]; exact blk_new w4 _)
  have n1 := am_ (show W1.heap[g1]? = some (.cells #[.int .i64 0, .int .i64 0] 24 (0, 0)) from by rw [hW1]; exact blk_alloc BKg1.out _)
  have n2 := am_ (show Dr w wa W1 g code _ from by rw [hW1]; exact HD.out.alloc _)
  have hne : g1 ≠ w4.heap.size := Nat.ne_of_lt (blk_lt BKg1.out)
  rw [← hW1]
  clear hW1 HD HB BKg1
  have HD := n2
  have BKg1 := n1
  clear n1 n2
  generalize w4.heap.size = g3 at BKg3 hne ⊢
  have yg1_0 : W1.cell? ⟨g1, 0, none⟩ = some (.int .i64 0) := (blk_cell BKg1.out 0).trans rfl; have fg1_0 := blk_frozen BKg1.out 0; have yg1_1 : W1.cell? ⟨g1, 1, none⟩ = some (.int .i64 0) := (blk_cell BKg1.out 1).trans rfl; have fg1_1 := blk_frozen BKg1.out 1
  have yg3_0 : W1.cell? ⟨g3, 0, none⟩ = some (.int .i64 rn) := (blk_cell BKg3.out 0).trans rfl; have fg3_0 := blk_frozen BKg3.out 0; have yg3_1 : W1.cell? ⟨g3, 1, none⟩ = some (.int .i64 rd) := (blk_cell BKg3.out 1).trans rfl; have fg3_1 := blk_frozen BKg3.out 1
  have hne2 := Ne.symm hne
  go_wp2
  refine bodyPost_ret (results_single rfl (.cell g1 24 #[.int .i64 rn, .int .i64 rd] (0, 0) _ rfl (by (with_reducible repeat first | refine kn_ ?_ _ | refine kd_ ?_ | refine ka_ ?_ _); refine blk_put (cs := #[.int .i64 rn, .int .i64 0]) ?_ 1 _ rfl; (with_reducible repeat first | refine kn_ ?_ _ | refine kd_ ?_ | refine ka_ ?_ _); refine blk_put (cs := #[.int .i64 0, .int .i64 0]) ?_ 0 _ rfl; (with_reducible repeat first | refine kn_ ?_ _ | refine kd_ ?_ | refine ka_ ?_ _); exact BKg1.out) Try.underlying24 rfl (by kernel_rfl) .nil)) rfl ?_
  exact ⟨_, _, rfl, Dr.more (by repeat first | exact HD.out | apply Dr.set (hq := GAg1.out) (hb := below_size HB0.out) (hg := NGg1.out) | apply Dr.alloc | apply Dr.drewN | apply Dr.drew) (by omega)⟩
set_option maxHeartbeats 16000000 in
set_option maxRecDepth 100000 in
theorem anyFraction_c (g : Nat) (code : List Int) (B : Int) (w wa : World) (hI : Cur w wa g code B) (hB : Below w.heap.size w wa) (hb : B ≤ 800000000000) :
    Calls Try.prog 116 #[.pointer (some ⟨g, 0, none⟩)] wa fun e w' => ∃ n d, e = .returned (.agg #[.int .i64 n, .int .i64 d]) ∧ Dr w wa w' g code (B + 3) := by
  have HD := am_ (Dr.refl hI hB (Int.le_refl B))
  have HB := am_ hB
  have HB0 := am_ hB
  have hgl := hI.lt
  clear hI hB
  go_enter Try.func116, Try.ntmps116
  go_wp2_with fail
  refine (pick_c 16 (by decide) g code _ w _ (HD.out.alloc _).cur (ba_ HB.out _) (by omega)).mono ?_
  rintro e w2 ⟨v, rfl, _, hd⟩
  have BKg1 := am_ (hd.2.2.blk (g' := wa.heap.size) (o := .cells #[.int .i64 0, .int .i64 0] 24 (0, 0)) (blk_new wa _) (Nat.ne_of_gt hgl) (by simp))
  have k_ := am_ ((HD.out.alloc _).trans hd)
  clear HD HB hd
  have HD := k_
  clear k_
  have HB := am_ HD.out.below
  obtain ⟨g1, hbE⟩ : ∃ b, b = wa.heap.size := ⟨_, rfl⟩
  have GAg1 := am_ (show wa.heap.size ≤ g1 from by omega)
  have NGg1 := am_ (show g ≠ g1 from by omega)
  rw [← hbE] at BKg1 ⊢
  clear hbE hgl
  by_cases e0 : v = 0
  · have q0 : (v == 0) = true := by simp [e0]
    have z0 : decide (v = 0) = true := decide_eq_true e0
    clear e0
    have yg1_0 : w2.cell? ⟨g1, 0, none⟩ = some (.int .i64 0) := (blk_cell BKg1.out 0).trans rfl; have fg1_0 := blk_frozen BKg1.out 0; have yg1_1 : w2.cell? ⟨g1, 1, none⟩ = some (.int .i64 0) := (blk_cell BKg1.out 1).trans rfl; have fg1_1 := blk_frozen BKg1.out 1
    go_wp2
    refine bodyPost_ret (results_single rfl (.cell g1 24 #[.int .i64 2, .int .i64 4] (0, 0) _ rfl (by (with_reducible repeat first | refine kn_ ?_ _ | refine kd_ ?_ | refine ka_ ?_ _); refine blk_put (cs := #[.int .i64 2, .int .i64 0]) ?_ 1 _ rfl; (with_reducible repeat first | refine kn_ ?_ _ | refine kd_ ?_ | refine ka_ ?_ _); refine blk_put (cs := #[.int .i64 0, .int .i64 0]) ?_ 0 _ rfl; (with_reducible repeat first | refine kn_ ?_ _ | refine kd_ ?_ | refine ka_ ?_ _); exact BKg1.out) Try.underlying24 rfl (by kernel_rfl) .nil)) rfl ?_
    exact ⟨_, _, rfl, Dr.more (by repeat first | exact HD.out | apply Dr.set (hq := GAg1.out) (hb := below_size HB0.out) (hg := NGg1.out) | apply Dr.alloc | apply Dr.drewN | apply Dr.drew) (by omega)⟩
  have q0 : (v == 0) = false := by simp [e0]
  have z0 : decide (v = 0) = false := decide_eq_false e0
  clear e0
  by_cases e1 : v = 1
  · have q1 : (v == 1) = true := by simp [e1]
    have z1 : decide (v = 1) = true := decide_eq_true e1
    clear e1
    go_wp2_with fail
    refine (pick_c 3 (by decide) g code _ w _ HD.out.cur HB.out (by omega)).mono ?_
    rintro e w3 ⟨x, rfl, _, hd⟩
    have m_g1 := am_ (hd.2.2.blk (g' := g1) (o := .cells #[.int .i64 0, .int .i64 0] 24 (0, 0)) (by repeat first | exact BKg1.out | refine ka_ ?_ _ | refine kn_ ?_ _ | refine kd_ ?_) NGg1.out.symm (by simp))
    have k_ := am_ (Dr.trans HD.out hd)
    clear hd HD HB BKg1
    have HD := k_
    clear k_
    have HB := am_ HD.out.below
    have BKg1 := m_g1
    clear m_g1
    go_wp2_with fail
    refine (among_c [0, -1, 1000000000, 1000000001] w3.heap.size 4 4 (by decide) g code _ w _ (HD.out.alloc _).cur (ba_ HB.out _) (by omega) (blk_new _ _)).mono ?_
    rintro e w4 ⟨y, rfl, _, hd⟩
    have m_g1 := am_ (hd.2.2.blk (g' := g1) (o := .cells #[.int .i64 0, .int .i64 0] 24 (0, 0)) (by repeat first | exact BKg1.out | refine ka_ ?_ _ | refine kn_ ?_ _ | refine kd_ ?_) NGg1.out.symm (by simp))
    have k_ := am_ (Dr.trans (by repeat first | exact HD.out | apply Dr.alloc | apply Dr.drewN | apply Dr.drew) hd)
    clear hd HD HB BKg1
    have HD := k_
    clear k_
    have HB := am_ HD.out.below
    have BKg1 := m_g1
    clear m_g1
    have yg1_0 : w4.cell? ⟨g1, 0, none⟩ = some (.int .i64 0) := (blk_cell BKg1.out 0).trans rfl; have fg1_0 := blk_frozen BKg1.out 0; have yg1_1 : w4.cell? ⟨g1, 1, none⟩ = some (.int .i64 0) := (blk_cell BKg1.out 1).trans rfl; have fg1_1 := blk_frozen BKg1.out 1
    go_wp2
    refine bodyPost_ret (results_single rfl (.cell g1 24 #[.int .i64 x, .int .i64 y] (0, 0) _ rfl (by (with_reducible repeat first | refine kn_ ?_ _ | refine kd_ ?_ | refine ka_ ?_ _); refine blk_put (cs := #[.int .i64 x, .int .i64 0]) ?_ 1 _ rfl; (with_reducible repeat first | refine kn_ ?_ _ | refine kd_ ?_ | refine ka_ ?_ _); refine blk_put (cs := #[.int .i64 0, .int .i64 0]) ?_ 0 _ rfl; (with_reducible repeat first | refine kn_ ?_ _ | refine kd_ ?_ | refine ka_ ?_ _); exact BKg1.out) Try.underlying24 rfl (by kernel_rfl) .nil)) rfl ?_
    exact ⟨_, _, rfl, Dr.more (by repeat first | exact HD.out | apply Dr.set (hq := GAg1.out) (hb := below_size HB0.out) (hg := NGg1.out) | apply Dr.alloc | apply Dr.drewN | apply Dr.drew) (by omega)⟩
  have q1 : (v == 1) = false := by simp [e1]
  have z1 : decide (v = 1) = false := decide_eq_false e1
  clear e1
  by_cases e2 : v = 2
  · have q2 : (v == 2) = true := by simp [e2]
    have z2 : decide (v = 2) = true := decide_eq_true e2
    clear e2
    go_wp2_with fail
    refine (among_c [999999999, -999999999, 1000000001] w2.heap.size 3 3 (by decide) g code _ w _ (HD.out.alloc _).cur (ba_ HB.out _) (by omega) (blk_new _ _)).mono ?_
    rintro e w3 ⟨x, rfl, _, hd⟩
    have m_g1 := am_ (hd.2.2.blk (g' := g1) (o := .cells #[.int .i64 0, .int .i64 0] 24 (0, 0)) (by repeat first | exact BKg1.out | refine ka_ ?_ _ | refine kn_ ?_ _ | refine kd_ ?_) NGg1.out.symm (by simp))
    have k_ := am_ (Dr.trans (by repeat first | exact HD.out | apply Dr.alloc | apply Dr.drewN | apply Dr.drew) hd)
    clear hd HD HB BKg1
    have HD := k_
    clear k_
    have HB := am_ HD.out.below
    have BKg1 := m_g1
    clear m_g1
    go_wp2_with fail
    refine (among_c [1, 1000000000, 2] w3.heap.size 3 3 (by decide) g code _ w _ (HD.out.alloc _).cur (ba_ HB.out _) (by omega) (blk_new _ _)).mono ?_
    rintro e w4 ⟨y, rfl, _, hd⟩
    have m_g1 := am_ (hd.2.2.blk (g' := g1) (o := .cells #[.int .i64 0, .int .i64 0] 24 (0, 0)) (by repeat first | exact BKg1.out | refine ka_ ?_ _ | refine kn_ ?_ _ | refine kd_ ?_) NGg1.out.symm (by simp))
    have k_ := am_ (Dr.trans (by repeat first | exact HD.out | apply Dr.alloc | apply Dr.drewN | apply Dr.drew) hd)
    clear hd HD HB BKg1
    have HD := k_
    clear k_
    have HB := am_ HD.out.below
    have BKg1 := m_g1
    clear m_g1
    have yg1_0 : w4.cell? ⟨g1, 0, none⟩ = some (.int .i64 0) := (blk_cell BKg1.out 0).trans rfl; have fg1_0 := blk_frozen BKg1.out 0; have yg1_1 : w4.cell? ⟨g1, 1, none⟩ = some (.int .i64 0) := (blk_cell BKg1.out 1).trans rfl; have fg1_1 := blk_frozen BKg1.out 1
    go_wp2
    refine bodyPost_ret (results_single rfl (.cell g1 24 #[.int .i64 x, .int .i64 y] (0, 0) _ rfl (by (with_reducible repeat first | refine kn_ ?_ _ | refine kd_ ?_ | refine ka_ ?_ _); refine blk_put (cs := #[.int .i64 x, .int .i64 0]) ?_ 1 _ rfl; (with_reducible repeat first | refine kn_ ?_ _ | refine kd_ ?_ | refine ka_ ?_ _); refine blk_put (cs := #[.int .i64 0, .int .i64 0]) ?_ 0 _ rfl; (with_reducible repeat first | refine kn_ ?_ _ | refine kd_ ?_ | refine ka_ ?_ _); exact BKg1.out) Try.underlying24 rfl (by kernel_rfl) .nil)) rfl ?_
    exact ⟨_, _, rfl, Dr.more (by repeat first | exact HD.out | apply Dr.set (hq := GAg1.out) (hb := below_size HB0.out) (hg := NGg1.out) | apply Dr.alloc | apply Dr.drewN | apply Dr.drew) (by omega)⟩
  have q2 : (v == 2) = false := by simp [e2]
  have z2 : decide (v = 2) = false := decide_eq_false e2
  clear e2
  go_wp2_with fail
  refine (fraction_c g code _ w _ HD.out.cur HB.out (by omega)).mono ?_
  rintro e w3 ⟨x, y, rfl, hd⟩
  have m_g1 := am_ (hd.2.2.blk (g' := g1) (o := .cells #[.int .i64 0, .int .i64 0] 24 (0, 0)) (by repeat first | exact BKg1.out | refine ka_ ?_ _ | refine kn_ ?_ _ | refine kd_ ?_) NGg1.out.symm (by simp))
  have k_ := am_ (Dr.trans HD.out hd)
  clear hd HD HB BKg1
  have HD := k_
  clear k_
  have HB := am_ HD.out.below
  have BKg1 := m_g1
  clear m_g1
  have yg1_0 : w3.cell? ⟨g1, 0, none⟩ = some (.int .i64 0) := (blk_cell BKg1.out 0).trans rfl; have fg1_0 := blk_frozen BKg1.out 0; have yg1_1 : w3.cell? ⟨g1, 1, none⟩ = some (.int .i64 0) := (blk_cell BKg1.out 1).trans rfl; have fg1_1 := blk_frozen BKg1.out 1
  go_wp2
  refine bodyPost_ret (results_single rfl (.cell g1 24 #[.int .i64 x, .int .i64 y] (0, 0) _ rfl (by (with_reducible repeat first | refine kn_ ?_ _ | refine kd_ ?_ | refine ka_ ?_ _); refine blk_put (cs := #[.int .i64 x, .int .i64 0]) ?_ 1 _ rfl; (with_reducible repeat first | refine kn_ ?_ _ | refine kd_ ?_ | refine ka_ ?_ _); refine blk_put (cs := #[.int .i64 0, .int .i64 0]) ?_ 0 _ rfl; (with_reducible repeat first | refine kn_ ?_ _ | refine kd_ ?_ | refine ka_ ?_ _); exact BKg1.out) Try.underlying24 rfl (by kernel_rfl) .nil)) rfl ?_
  exact ⟨_, _, rfl, Dr.more (by repeat first | exact HD.out | apply Dr.set (hq := GAg1.out) (hb := below_size HB0.out) (hg := NGg1.out) | apply Dr.alloc | apply Dr.drewN | apply Dr.drew) (by omega)⟩
set_option maxHeartbeats 16000000 in
set_option maxRecDepth 100000 in
theorem principal_c (g : Nat) (code : List Int) (B : Int) (w wa : World) (hI : Cur w wa g code B) (hB : Below w.heap.size w wa) (hb : B ≤ 600000000000) :
    Calls Try.prog 91 #[.pointer (some ⟨g, 0, none⟩)] wa fun e w' => ∃ x, e = .returned (.int .i64 x) ∧ Dr w wa w' g code (B + 2) := by
  have HD := am_ (Dr.refl hI hB (Int.le_refl B))
  have HB := am_ hB
  clear hI hB
  go_enter Try.func91, Try.ntmps91
  go_wp2_with fail
  refine (pick_c 24 (by decide) g code _ w _ (HD.out.alloc _).cur (ba_ HB.out _) (by omega)).mono ?_
  rintro e w2 ⟨v, rfl, ⟨v0, v1⟩, hd⟩
  have HBK := am_ (hd.2.2.blk (g' := wa.heap.size) (o := .cells (numsA [0, 100, 1000, 12345, 360000, 1000000, 99999999, 1000000000, -1]) 3 (0, 0)) (blk_new wa _) (Nat.ne_of_gt (Cur.lt HD.out.cur)) (by simp))
  have v2 := v1 (by decide)
  clear v1
  have k_ := am_ (Dr.trans (by repeat first | exact HD.out | apply Dr.alloc | apply Dr.drewN | apply Dr.drew) hd)
  clear hd HD HB
  have HD := k_
  clear k_
  have HB := am_ HD.out.below
  generalize wa.heap.size = b at HBK ⊢
  by_cases c0 : v < 23
  · have q1 : v.tdiv 23 = 0 := by rw [Int.tdiv_eq_ediv_of_nonneg v0]; omega
    have q2 : v / 23 = 0 := by omega
    go_wp2_with fail
    refine (among_c [0, 100, 1000, 12345, 360000, 1000000, 99999999, 1000000000, -1] b 8 9 (by decide) g code _ w _ HD.out.cur HB.out (by omega) HBK.out).mono ?_
    rintro e w3 ⟨x, rfl, _, hd⟩
    clear q1 q2 v0 v2
    have k_ := am_ (Dr.trans (by repeat first | exact HD.out | apply Dr.alloc | apply Dr.drewN | apply Dr.drew) hd)
    clear hd HD HB
    have HD := k_
    clear k_
    have HB := am_ HD.out.below
    clear HBK
    go_wp2
    go_ret
    exact ⟨x, rfl, HD.out.more (by omega)⟩
  · have q1 : v.tdiv 23 = 1 := by rw [Int.tdiv_eq_ediv_of_nonneg v0]; omega
    have q2 : v / 23 = 1 := by omega
    go_wp2_with fail
    refine (among_c [0, 100, 1000, 12345, 360000, 1000000, 99999999, 1000000000, -1] b 9 9 (by decide) g code _ w _ HD.out.cur HB.out (by omega) HBK.out).mono ?_
    rintro e w3 ⟨x, rfl, _, hd⟩
    clear q1 q2 v0 v2
    have k_ := am_ (Dr.trans (by repeat first | exact HD.out | apply Dr.alloc | apply Dr.drewN | apply Dr.drew) hd)
    clear hd HD HB
    have HD := k_
    clear k_
    have HB := am_ HD.out.below
    clear HBK
    go_wp2
    go_ret
    exact ⟨x, rfl, HD.out.more (by omega)⟩
set_option maxHeartbeats 16000000 in
set_option maxRecDepth 100000 in
theorem terms15_c (g : Nat) (code : List Int) (B : Int) (w wa : World) (hI : Cur w wa g code B) (hB : Below w.heap.size w wa) (hb : B ≤ 600000000000) :
    Calls Try.prog 90 #[.pointer (some ⟨g, 0, none⟩)] wa fun e w' => ∃ x y, e = .returned (.tuple #[.int .i64 x, .int .i64 y]) ∧ Dr w wa w' g code (B + 4) := by
  have HD := am_ (Dr.refl hI hB (Int.le_refl B))
  have HB := am_ hB
  clear hI hB
  go_enter Try.func90, Try.ntmps90
  go_wp2_with fail
  refine (pick_c 24 (by decide) g code _ w _ (HD.out.alloc _).cur (ba_ HB.out _) (by omega)).mono ?_
  rintro e w2 ⟨v, rfl, ⟨v0, v1⟩, hd⟩
  have HBK := am_ (hd.2.2.blk (g' := wa.heap.size) (o := .cells (numsA [1, 2, 3, 4, 1, 2, 3, 4, 0]) 3 (0, 0)) (blk_new wa _) (Nat.ne_of_gt (Cur.lt HD.out.cur)) (by simp))
  have v2 := v1 (by decide)
  clear v1
  have k_ := am_ (Dr.trans (by repeat first | exact HD.out | apply Dr.alloc | apply Dr.drewN | apply Dr.drew) hd)
  clear hd HD HB
  have HD := k_
  clear k_
  have HB := am_ HD.out.below
  generalize wa.heap.size = b at HBK ⊢
  by_cases c0 : v < 23
  · have q1 : v.tdiv 23 = 0 := by rw [Int.tdiv_eq_ediv_of_nonneg v0]; omega
    have q2 : v / 23 = 0 := by omega
    go_wp2_with fail
    refine (among_c [1, 2, 3, 4, 1, 2, 3, 4, 0] b 8 9 (by decide) g code _ w _ HD.out.cur HB.out (by omega) HBK.out).mono ?_
    rintro e w3 ⟨x, rfl, _, hd⟩
    clear q1 q2 v0 v2
    have k_ := am_ (Dr.trans (by repeat first | exact HD.out | apply Dr.alloc | apply Dr.drewN | apply Dr.drew) hd)
    clear hd HD HB
    have HD := k_
    clear k_
    have HB := am_ HD.out.below
    clear HBK
    go_wp2_with fail
    refine (pick_c 24 (by decide) g code _ w _ (HD.out.alloc _).cur (ba_ HB.out _) (by omega)).mono ?_
    rintro e w4 ⟨v, rfl, ⟨v0, v1⟩, hd⟩
    have HBK := am_ (hd.2.2.blk (g' := w3.heap.size) (o := .cells (numsA [1, 2, 3, 4, 1, 2, 3, 4, 5]) 3 (0, 0)) (blk_new w3 _) (Nat.ne_of_gt (Cur.lt HD.out.cur)) (by simp))
    have v2 := v1 (by decide)
    clear v1
    have k_ := am_ (Dr.trans (by repeat first | exact HD.out | apply Dr.alloc | apply Dr.drewN | apply Dr.drew) hd)
    clear hd HD HB
    have HD := k_
    clear k_
    have HB := am_ HD.out.below
    generalize w3.heap.size = b at HBK ⊢
    by_cases c0 : v < 23
    · have q1 : v.tdiv 23 = 0 := by rw [Int.tdiv_eq_ediv_of_nonneg v0]; omega
      have q2 : v / 23 = 0 := by omega
      go_wp2_with fail
      refine (among_c [1, 2, 3, 4, 1, 2, 3, 4, 5] b 8 9 (by decide) g code _ w _ HD.out.cur HB.out (by omega) HBK.out).mono ?_
      rintro e w5 ⟨y, rfl, _, hd⟩
      clear q1 q2 v0 v2
      have k_ := am_ (Dr.trans (by repeat first | exact HD.out | apply Dr.alloc | apply Dr.drewN | apply Dr.drew) hd)
      clear hd HD HB
      have HD := k_
      clear k_
      have HB := am_ HD.out.below
      clear HBK
      go_wp2
      go_ret2
      exact ⟨x, y, rfl, HD.out.more (by omega)⟩
    · have q1 : v.tdiv 23 = 1 := by rw [Int.tdiv_eq_ediv_of_nonneg v0]; omega
      have q2 : v / 23 = 1 := by omega
      go_wp2_with fail
      refine (among_c [1, 2, 3, 4, 1, 2, 3, 4, 5] b 9 9 (by decide) g code _ w _ HD.out.cur HB.out (by omega) HBK.out).mono ?_
      rintro e w5 ⟨y, rfl, _, hd⟩
      clear q1 q2 v0 v2
      have k_ := am_ (Dr.trans (by repeat first | exact HD.out | apply Dr.alloc | apply Dr.drewN | apply Dr.drew) hd)
      clear hd HD HB
      have HD := k_
      clear k_
      have HB := am_ HD.out.below
      clear HBK
      go_wp2
      go_ret2
      exact ⟨x, y, rfl, HD.out.more (by omega)⟩
  · have q1 : v.tdiv 23 = 1 := by rw [Int.tdiv_eq_ediv_of_nonneg v0]; omega
    have q2 : v / 23 = 1 := by omega
    go_wp2_with fail
    refine (among_c [1, 2, 3, 4, 1, 2, 3, 4, 0] b 9 9 (by decide) g code _ w _ HD.out.cur HB.out (by omega) HBK.out).mono ?_
    rintro e w3 ⟨x, rfl, _, hd⟩
    clear q1 q2 v0 v2
    have k_ := am_ (Dr.trans (by repeat first | exact HD.out | apply Dr.alloc | apply Dr.drewN | apply Dr.drew) hd)
    clear hd HD HB
    have HD := k_
    clear k_
    have HB := am_ HD.out.below
    clear HBK
    go_wp2_with fail
    refine (pick_c 24 (by decide) g code _ w _ (HD.out.alloc _).cur (ba_ HB.out _) (by omega)).mono ?_
    rintro e w4 ⟨v, rfl, ⟨v0, v1⟩, hd⟩
    have HBK := am_ (hd.2.2.blk (g' := w3.heap.size) (o := .cells (numsA [1, 2, 3, 4, 1, 2, 3, 4, 5]) 3 (0, 0)) (blk_new w3 _) (Nat.ne_of_gt (Cur.lt HD.out.cur)) (by simp))
    have v2 := v1 (by decide)
    clear v1
    have k_ := am_ (Dr.trans (by repeat first | exact HD.out | apply Dr.alloc | apply Dr.drewN | apply Dr.drew) hd)
    clear hd HD HB
    have HD := k_
    clear k_
    have HB := am_ HD.out.below
    generalize w3.heap.size = b at HBK ⊢
    by_cases c0 : v < 23
    · have q1 : v.tdiv 23 = 0 := by rw [Int.tdiv_eq_ediv_of_nonneg v0]; omega
      have q2 : v / 23 = 0 := by omega
      go_wp2_with fail
      refine (among_c [1, 2, 3, 4, 1, 2, 3, 4, 5] b 8 9 (by decide) g code _ w _ HD.out.cur HB.out (by omega) HBK.out).mono ?_
      rintro e w5 ⟨y, rfl, _, hd⟩
      clear q1 q2 v0 v2
      have k_ := am_ (Dr.trans (by repeat first | exact HD.out | apply Dr.alloc | apply Dr.drewN | apply Dr.drew) hd)
      clear hd HD HB
      have HD := k_
      clear k_
      have HB := am_ HD.out.below
      clear HBK
      go_wp2
      go_ret2
      exact ⟨x, y, rfl, HD.out.more (by omega)⟩
    · have q1 : v.tdiv 23 = 1 := by rw [Int.tdiv_eq_ediv_of_nonneg v0]; omega
      have q2 : v / 23 = 1 := by omega
      go_wp2_with fail
      refine (among_c [1, 2, 3, 4, 1, 2, 3, 4, 5] b 9 9 (by decide) g code _ w _ HD.out.cur HB.out (by omega) HBK.out).mono ?_
      rintro e w5 ⟨y, rfl, _, hd⟩
      clear q1 q2 v0 v2
      have k_ := am_ (Dr.trans (by repeat first | exact HD.out | apply Dr.alloc | apply Dr.drewN | apply Dr.drew) hd)
      clear hd HD HB
      have HD := k_
      clear k_
      have HB := am_ HD.out.below
      clear HBK
      go_wp2
      go_ret2
      exact ⟨x, y, rfl, HD.out.more (by omega)⟩
theorem in_bd2 (ls : List Int) (lo hi : Int) (h : ls.all (fun x => decide (lo ≤ x ∧ x ≤ hi)) = true) : ∀ x ∈ ls, lo ≤ x ∧ x ≤ hi := fun x hx => of_decide_eq_true (List.all_eq_true.mp h x hx)
set_option maxHeartbeats 16000000 in
set_option maxRecDepth 100000 in
theorem rate_c (g : Nat) (code : List Int) (B : Int) (w wa : World) (hI : Cur w wa g code B) (hB : Below w.heap.size w wa) (hb : B ≤ 600000000000) :
    Calls Try.prog 92 #[.pointer (some ⟨g, 0, none⟩)] wa fun e w' => ∃ n d, e = .returned (.agg #[.int .i64 n, .int .i64 d]) ∧ Dr w wa w' g code (B + 6) := by
  have HD := am_ (Dr.refl hI hB (Int.le_refl B))
  have HB := am_ hB
  have HB0 := am_ hB
  have hgl := hI.lt
  clear hI hB
  go_enter Try.func92, Try.ntmps92
  go_wp2_with fail
  obtain ⟨W1, hW1⟩ : ∃ W1, W1 = wa.alloc (.cells #[.int .i64 0, .int .i64 0] 24) := ⟨_, rfl⟩
  have BK0 := am_ (show W1.heap[wa.heap.size]? = some (.cells #[.int .i64 0, .int .i64 0] 24 (0, 0)) from by rw [hW1]; exact blk_new wa _)
  have hsz : W1.heap.size = wa.heap.size + 1 := by rw [hW1]; exact Array.size_push _
  have n_ := am_ (show Dr w wa W1 g code B from by rw [hW1]; exact HD.out.alloc _)
  rw [← hW1]
  clear hW1 HD HB
  have HD := n_
  clear n_
  have HB := am_ HD.out.below
  obtain ⟨g1, hgE1⟩ : ∃ g, g = wa.heap.size := ⟨_, rfl⟩
  have GAg1 := am_ (show wa.heap.size ≤ g1 from by omega)
  have NGg1 := am_ (show g ≠ g1 from by omega)
  rw [← hgE1] at BK0 hsz ⊢
  have BKg1 := am_ BK0.out
  rw [← hsz]
  clear hgE1 hsz hgl BK0
  go_wp2_with fail
  refine (among_c [1, 3, 5, 7, 12, 0, 25, 100] W1.heap.size 8 8 (by decide) g code _ w _ (HD.out.alloc _).cur (ba_ HB.out _) (by omega) (blk_new _ _)).mono ?_
  rintro e w2 ⟨p, rfl, hp, hd⟩
  have pb := in_bd2 [1, 3, 5, 7, 12, 0, 25, 100] (0) 100 (by decide) p hp
  have p0 := pb.1
  have p1 := pb.2
  clear hp pb
  have m_g1 := am_ (hd.2.2.blk (g' := g1) (o := .cells #[.int .i64 0, .int .i64 0] 24 (0, 0)) (by repeat first | exact BKg1.out | refine ka_ ?_ _ | refine kn_ ?_ _ | refine kd_ ?_) NGg1.out.symm (by simp))
  have k_ := am_ (Dr.trans (by repeat first | exact HD.out | apply Dr.alloc | apply Dr.drewN | apply Dr.drew) hd)
  clear hd HD HB BKg1
  have HD := k_
  clear k_
  have HB := am_ HD.out.below
  have BKg1 := m_g1
  clear m_g1
  go_wp2_with fail
  refine (among_c [100, 100, 200, 365, 1000, 12] w2.heap.size 6 6 (by decide) g code _ w _ (HD.out.alloc _).cur (ba_ HB.out _) (by omega) (blk_new _ _)).mono ?_
  rintro e w3 ⟨q, rfl, hq, hd⟩
  have qb := in_bd2 [100, 100, 200, 365, 1000, 12] (1) 1000 (by decide) q hq
  have q0 := qb.1
  have q1 := qb.2
  clear hq qb
  have m_g1 := am_ (hd.2.2.blk (g' := g1) (o := .cells #[.int .i64 0, .int .i64 0] 24 (0, 0)) (by repeat first | exact BKg1.out | refine ka_ ?_ _ | refine kn_ ?_ _ | refine kd_ ?_) NGg1.out.symm (by simp))
  have k_ := am_ (Dr.trans (by repeat first | exact HD.out | apply Dr.alloc | apply Dr.drewN | apply Dr.drew) hd)
  clear hd HD HB BKg1
  have HD := k_
  clear k_
  have HB := am_ HD.out.below
  have BKg1 := m_g1
  clear m_g1
  obtain ⟨kR, hR⟩ := roundsOf (specMake_ev p q (by omega) (by omega) (by omega))
  obtain ⟨FA, hFA⟩ : ∃ F, F = fracA p q := ⟨_, rfl⟩
  rw [← hFA] at hR
  clear hFA
  obtain ⟨n, d, ro⟩ := FA
  have HR := am_ hR
  clear hR
  go_wp2_with fail
  refine (spec_MakeFraction.calls kR p q n d ro _ HR.out).mono ?_
  rintro e w4 ⟨rfl, hb⟩
  have m_ := am_ (blk_below (by repeat first | exact BKg1.out | refine blk_alloc ?_ _ | refine kn_ ?_ _ | refine kd_ ?_) hb)
  have k_ := am_ (Dr.bel (by repeat first | exact HD.out | apply Dr.alloc | apply Dr.drewN | apply Dr.drew) hb)
  clear hb HD HB BKg1
  have HD := k_
  have BKg1 := m_
  clear k_ m_
  have HB := am_ HD.out.below
  go_upto_region 2 with (fail)
  obtain ⟨W2, hW2⟩ : ∃ W1, W1 = w4.alloc (.cells #[.int .i64 n, .int .i64 d] 24) := ⟨_, rfl⟩
  have BK3 := am_ (show W2.heap[w4.heap.size]? = some (.cells #[.int .i64 n, .int .i64 d] 24 (0, 0)) from by rw [hW2]; exact blk_new w4 _)
  have n1 := am_ (show W2.heap[g1]? = some (.cells #[.int .i64 0, .int .i64 0] 24 (0, 0)) from by rw [hW2]; exact blk_alloc BKg1.out _)
  have n2 := am_ (show Dr w wa W2 g code _ from by rw [hW2]; exact HD.out.alloc _)
  have hne : g1 ≠ w4.heap.size := Nat.ne_of_lt (blk_lt BKg1.out)
  have hne3 : g ≠ w4.heap.size := Nat.ne_of_lt (Cur.lt HD.out.cur)
  rw [← hW2]
  clear hW2 HD HB BKg1
  have HD := n2
  have HB := am_ HD.out.below
  have BKg1 := n1
  clear n1 n2
  obtain ⟨g3, hg3⟩ : ∃ g, g = w4.heap.size := ⟨_, rfl⟩
  rw [← hg3] at BK3 hne hne3 ⊢
  have BKg3 := am_ BK3.out
  have NGg3 := am_ hne3
  have HNE := am_ hne
  clear hg3 BK3 hne3 hne
  go_wp2_with fail
  refine (pick_c 40 (by decide) g code _ w _ HD.out.cur HB.out (by omega)).mono ?_
  rintro e w6 ⟨v, rfl, _, hd⟩
  have m_g1 := am_ (hd.2.2.blk (g' := g1) (o := .cells #[.int .i64 0, .int .i64 0] 24 (0, 0)) (by repeat first | exact BKg1.out | refine ka_ ?_ _ | refine kn_ ?_ _ | refine kd_ ?_) NGg1.out.symm (by simp))
  have m_g3 := am_ (hd.2.2.blk (g' := g3) (o := .cells #[.int .i64 n, .int .i64 d] 24 (0, 0)) (by repeat first | exact BKg3.out | refine ka_ ?_ _ | refine kn_ ?_ _ | refine kd_ ?_) NGg3.out.symm (by simp))
  have k_ := am_ (Dr.trans (by repeat first | exact HD.out | apply Dr.alloc | apply Dr.drewN | apply Dr.drew) hd)
  clear hd HD HB BKg1 BKg3
  have HD := k_
  clear k_
  have HB := am_ HD.out.below
  have BKg1 := m_g1
  clear m_g1
  have BKg3 := m_g3
  clear m_g3
  by_cases e0 : v = 0
  · have q0 : (v == 0) = true := by simp [e0]
    have z0 : decide (v = 0) = true := decide_eq_true e0
    clear e0
    go_wp2_with fail
    refine (anyFraction_c g code _ w _ HD.out.cur HB.out (by omega)).mono ?_
    rintro e w7 ⟨x, y, rfl, hd⟩
    have m_g1 := am_ (hd.2.2.blk (g' := g1) (o := .cells #[.int .i64 0, .int .i64 0] 24 (0, 0)) (by repeat first | exact BKg1.out | refine ka_ ?_ _ | refine kn_ ?_ _ | refine kd_ ?_) NGg1.out.symm (by simp))
    have k_ := am_ (Dr.trans (by repeat first | exact HD.out | apply Dr.alloc | apply Dr.drewN | apply Dr.drew) hd)
    clear hd HD HB BKg1
    have HD := k_
    clear k_
    have HB := am_ HD.out.below
    have BKg1 := m_g1
    clear m_g1
    have yg1_0 : w7.cell? ⟨g1, 0, none⟩ = some (.int .i64 0) := (blk_cell BKg1.out 0).trans rfl; have fg1_0 := blk_frozen BKg1.out 0; have yg1_1 : w7.cell? ⟨g1, 1, none⟩ = some (.int .i64 0) := (blk_cell BKg1.out 1).trans rfl; have fg1_1 := blk_frozen BKg1.out 1
    go_wp2
    refine bodyPost_ret (results_single rfl (.cell g1 24 #[.int .i64 x, .int .i64 y] (0, 0) _ rfl (by (with_reducible repeat first | refine kn_ ?_ _ | refine kd_ ?_ | refine ka_ ?_ _); refine blk_put (cs := #[.int .i64 x, .int .i64 0]) ?_ 1 _ rfl; (with_reducible repeat first | refine kn_ ?_ _ | refine kd_ ?_ | refine ka_ ?_ _); refine blk_put (cs := #[.int .i64 0, .int .i64 0]) ?_ 0 _ rfl; (with_reducible repeat first | refine kn_ ?_ _ | refine kd_ ?_ | refine ka_ ?_ _); exact BKg1.out) Try.underlying24 rfl (by kernel_rfl) .nil)) rfl ?_
    exact ⟨_, _, rfl, Dr.more (by repeat first | exact HD.out | apply Dr.set (hq := GAg1.out) (hb := below_size HB0.out) (hg := NGg1.out) | apply Dr.alloc | apply Dr.drewN | apply Dr.drew) (by omega)⟩
  have q0 : (v == 0) = false := by simp [e0]
  have z0 : decide (v = 0) = false := decide_eq_false e0
  clear e0
  by_cases e1 : v = 1
  · have q1 : (v == 1) = true := by simp [e1]
    have z1 : decide (v = 1) = true := decide_eq_true e1
    clear e1
    have yg1_0 : w6.cell? ⟨g1, 0, none⟩ = some (.int .i64 0) := (blk_cell BKg1.out 0).trans rfl; have fg1_0 := blk_frozen BKg1.out 0; have yg1_1 : w6.cell? ⟨g1, 1, none⟩ = some (.int .i64 0) := (blk_cell BKg1.out 1).trans rfl; have fg1_1 := blk_frozen BKg1.out 1
    go_wp2
    refine bodyPost_ret (results_single rfl (.cell g1 24 #[.int .i64 999999937, .int .i64 1000000000] (0, 0) _ rfl (by (with_reducible repeat first | refine kn_ ?_ _ | refine kd_ ?_ | refine ka_ ?_ _); refine blk_put (cs := #[.int .i64 999999937, .int .i64 0]) ?_ 1 _ rfl; (with_reducible repeat first | refine kn_ ?_ _ | refine kd_ ?_ | refine ka_ ?_ _); refine blk_put (cs := #[.int .i64 0, .int .i64 0]) ?_ 0 _ rfl; (with_reducible repeat first | refine kn_ ?_ _ | refine kd_ ?_ | refine ka_ ?_ _); exact BKg1.out) Try.underlying24 rfl (by kernel_rfl) .nil)) rfl ?_
    exact ⟨_, _, rfl, Dr.more (by repeat first | exact HD.out | apply Dr.set (hq := GAg1.out) (hb := below_size HB0.out) (hg := NGg1.out) | apply Dr.alloc | apply Dr.drewN | apply Dr.drew) (by omega)⟩
  have q1 : (v == 1) = false := by simp [e1]
  have z1 : decide (v = 1) = false := decide_eq_false e1
  clear e1
  have yg1_0 : w6.cell? ⟨g1, 0, none⟩ = some (.int .i64 0) := (blk_cell BKg1.out 0).trans rfl; have fg1_0 := blk_frozen BKg1.out 0; have yg1_1 : w6.cell? ⟨g1, 1, none⟩ = some (.int .i64 0) := (blk_cell BKg1.out 1).trans rfl; have fg1_1 := blk_frozen BKg1.out 1
  have yg3_0 : w6.cell? ⟨g3, 0, none⟩ = some (.int .i64 n) := (blk_cell BKg3.out 0).trans rfl; have fg3_0 := blk_frozen BKg3.out 0; have yg3_1 : w6.cell? ⟨g3, 1, none⟩ = some (.int .i64 d) := (blk_cell BKg3.out 1).trans rfl; have fg3_1 := blk_frozen BKg3.out 1
  have hne := HNE.out
  have hne2 := Ne.symm hne
  go_wp2
  refine bodyPost_ret (results_single rfl (.cell g1 24 #[.int .i64 n, .int .i64 d] (0, 0) _ rfl (by (with_reducible repeat first | refine kn_ ?_ _ | refine kd_ ?_ | refine ka_ ?_ _); refine blk_put (cs := #[.int .i64 n, .int .i64 0]) ?_ 1 _ rfl; (with_reducible repeat first | refine kn_ ?_ _ | refine kd_ ?_ | refine ka_ ?_ _); refine blk_put (cs := #[.int .i64 0, .int .i64 0]) ?_ 0 _ rfl; (with_reducible repeat first | refine kn_ ?_ _ | refine kd_ ?_ | refine ka_ ?_ _); exact BKg1.out) Try.underlying24 rfl (by kernel_rfl) .nil)) rfl ?_
  exact ⟨_, _, rfl, Dr.more (by repeat first | exact HD.out | apply Dr.set (hq := GAg1.out) (hb := below_size HB0.out) (hg := NGg1.out) | apply Dr.alloc | apply Dr.drewN | apply Dr.drew) (by omega)⟩
theorem sizeU8 : (Try.prog.info? 5).map (fun i => i.size) = some 1 := by kernel_rfl
theorem cutCode {w : World} {A : Option Addr} {c : Nat} {code : List Int} (h : (Kd.int .u8).C w A code.length code) (hc : code.length ≤ c) (lo : Nat) (hl : lo ≤ code.length) : ∃ (A2 : Option Addr) (code2 : List Int), (∀ W : World, (Instr.slice 56 (.slice A code.length c) (some (.int .i64 (lo : Int))) none none).run Try.prog W = .ok (.slice A2 code2.length (c - lo)) W) ∧ (Kd.int .u8).C w A2 code2.length code2 ∧ ∀ x ∈ code2, x ∈ code := by
  refine ⟨if c = lo then A else A.map (·.add (lo * 1)), code.drop lo, fun W => ?_, ?_, fun x hx => List.mem_of_mem_drop hx⟩
  · obtain ⟨i, hi, hsz⟩ := Option.map_eq_some_iff.mp sizeU8
    have h1 := cut_from (P := Try.prog) 56 5 .i64 Try.underlying56 hi 1 hsz A code.length c (lo : Int) (by omega) (by omega) W
    rw [Int.toNat_natCast] at h1
    rw [List.length_drop]
    exact h1
  · exact Kd.C_drop h hl hc
end Go.Proofs.Ytacfepaemphdgaa.O
