/- Walks of our own, a part of those for the law FnDiscount: each function's contract in plain Lean. No condition beyond the bounds that each contract names. -/
import Derived.Test.YtacfepaemphdgaaPureFnDiscount
import Derived.Shelf.SlicesE.IndexFunc
import Derived.Shelf.SlLaysH
import Derived.Test.YtacfepaemphdgaaOFnDiscounta
import Derived.Test.YtacfepaemphdgaaOFnDiscountb
namespace Go.Proofs.Ytacfepaemphdgaa.O
open Go.RowKit Go.Proofs.YtacfepaemphdgaaW.PrintWords Go.Proofs.YtacfepaemphdgaaW.PrintLast Go.Proofs.YtacfepaemphdgaaW.PrintMore Go.Proofs.Ytacfepaemphdgaa.PL15I Go.Proofs.Ytacfepaemphdgaa.EvKit Go.Proofs.Ytacfepaemphdgaa.Pure
set_option linter.unusedVariables false
set_option linter.unusedSimpArgs false
attribute [local go_sem] max2_int min2_int max_two min_two max_three min_three max_four min_four
set_option maxHeartbeats 16000000 in
set_option maxRecDepth 100000 in
theorem one_c (n : Int) (hn : 1 ≤ n ∧ n ≤ 200) (g : Nat) (code : List Int) (B : Int) (w wa : World) (hI : Cur w wa g code B) (hB : Below w.heap.size w wa) (hb : B ≤ 800000000000) :
    Calls Try.prog 100 #[.pointer (some ⟨g, 0, none⟩), .int .i64 n] wa fun e w' => ∃ x : Bool, e = .returned (.bool x) ∧ Dr w wa w' g code (B + 1) := by
  have HD := am_ (Dr.refl hI hB (Int.le_refl B))
  have HB := am_ hB
  clear hI hB
  go_enter Try.func100, Try.ntmps100
  go_wp2_with fail
  refine (pick_c n hn.2 g code _ w _ HD.out.cur HB.out (by omega)).mono ?_
  rintro e w2 ⟨v, rfl, _, hd⟩
  have k_ := am_ (Dr.trans (by repeat first | exact HD.out | apply Dr.alloc | apply Dr.drewN | apply Dr.drew) hd)
  clear hd HD HB
  have HD := k_
  clear k_
  have HB := am_ HD.out.below
  by_cases hv : v = 0
  · have q1 : (v == 0) = true := by simp [hv]
    have q2 : decide (v = 0) = true := decide_eq_true hv
    clear hv
    go_wp2
    go_ret
    exact ⟨true, rfl, HD.out.more (by omega)⟩
  · have q1 : (v == 0) = false := by simp [hv]
    have q2 : decide (v = 0) = false := decide_eq_false hv
    clear hv
    go_wp2
    go_ret
    exact ⟨false, rfl, HD.out.more (by omega)⟩
set_option maxHeartbeats 16000000 in
set_option maxRecDepth 100000 in
theorem pickB_c (n : Int) (hn : 200 < n ∧ n ≤ 65536) (g : Nat) (code : List Int) (B : Int) (w wa : World) (hI : Cur w wa g code B) (hB : Below w.heap.size w wa) (hb : B ≤ 800000000000) :
    Calls Try.prog 115 #[.pointer (some ⟨g, 0, none⟩), .int .i64 n] wa fun e w' => ∃ v, e = .returned (.int .i64 v) ∧ (0 ≤ v ∧ v < n) ∧ Dr w wa w' g code (B + 2) := by
  have HD := am_ (Dr.refl hI hB (Int.le_refl B))
  have HB := am_ hB
  clear hI hB
  have c1 : decide (n ≤ 1) = false := decide_eq_false (by omega)
  have c2 : decide (200 < n) = true := decide_eq_true hn.1
  have hnz : ¬ n = 0 := by omega
  have n0 := hn.1
  have n1 := hn.2
  go_enter Try.func115, Try.ntmps115
  go_wp2_with fail
  refine (next_c g code _ w _ HD.out.cur HB.out (by omega)).mono ?_
  rintro e w1 ⟨x, rfl, hx, hc, hb1, hk⟩
  have hd : Dr w wa w1 g code (B + 1) := ⟨hc, hb1, HD.out.2.2.trans hk (.inl rfl)⟩
  have x0 := hx.1
  have x1 := hx.2
  clear HD HB hc hb1 hk hx
  have HD := am_ hd
  have HB := am_ hd.below
  clear hd
  go_wp2_with fail
  refine (next_c g code _ w _ HD.out.cur HB.out (by omega)).mono ?_
  rintro e w2 ⟨y, rfl, hy, hc, hb1, hk⟩
  have hd : Dr w wa w2 g code (B + 1 + 1) := ⟨hc, hb1, HD.out.2.2.trans hk (.inl rfl)⟩
  have y0 := hy.1
  have y1 := hy.2
  clear HD HB hc hb1 hk hy
  have HD := am_ hd
  have HB := am_ hd.below
  clear hd
  have hme : (x * 256 + y).tmod n = (x * 256 + y) % n := Int.tmod_eq_emod_of_nonneg (by omega)
  have hm : 0 ≤ (x * 256 + y) % n ∧ (x * 256 + y) % n < n := ⟨Int.emod_nonneg _ hnz, Int.emod_lt_of_pos _ (by omega)⟩
  have HM := am_ hm
  have hw : wrap64 ((x * 256 + y) % n) = (x * 256 + y) % n := wrapId (by omega)
  clear hm
  go_wp2
  go_ret
  exact ⟨_, rfl, HM.out, HD.out.more (by omega)⟩
theorem day_in (ls : List Int) (h : ls.all (fun x => decide (0 ≤ x ∧ x ≤ 36524)) = true) : ∀ x ∈ ls, 0 ≤ x ∧ x ≤ 36524 := fun x hx => of_decide_eq_true (List.all_eq_true.mp h x hx)
set_option maxHeartbeats 16000000 in
set_option maxRecDepth 100000 in
theorem day_c (g : Nat) (code : List Int) (B : Int) (w wa : World) (hI : Cur w wa g code B) (hB : Below w.heap.size w wa) (hb : B ≤ 700000000000) :
    Calls Try.prog 119 #[.pointer (some ⟨g, 0, none⟩)] wa fun e w' => ∃ x, e = .returned (.int .i64 x) ∧ (0 ≤ x ∧ x ≤ 36524) ∧ Dr w wa w' g code (B + 4) := by
  have HD := am_ (Dr.refl hI hB (Int.le_refl B))
  have HB := am_ hB
  clear hI hB
  go_enter Try.func119, Try.ntmps119
  go_wp2_with fail
  refine (pick_c 6 (by decide) g code _ w _ HD.out.cur HB.out (by omega)).mono ?_
  rintro e w1 ⟨v, rfl, ⟨v0, v1⟩, hd⟩
  have k_ := am_ (Dr.trans (by repeat first | exact HD.out | apply Dr.alloc | apply Dr.drewN | apply Dr.drew) hd)
  clear hd HD HB
  have HD := k_
  clear k_
  have HB := am_ HD.out.below
  clear v1
  by_cases e0 : v = 0
  · subst e0
    go_wp2_with fail
    refine (among_c [0, 59, 60, 365, 366, 424, 425, 36524, 36523, 30, 31] _ 11 11 (by decide) g code _ w _ (HD.out.alloc _).cur (ba_ HB.out _) (by omega) (blk_new _ _)).mono ?_
    rintro e w2 ⟨x, rfl, hx, hd⟩
    have HX := am_ (day_in [0, 59, 60, 365, 366, 424, 425, 36524, 36523, 30, 31] (by decide) x hx)
    clear hx
    have k_ := am_ (Dr.trans (Dr.alloc HD.out _) hd)
    clear hd HD HB
    have HD := k_
    clear k_
    have HB := am_ HD.out.below
    go_wp2
    go_ret
    exact ⟨x, rfl, HX.out, HD.out.more (by omega)⟩
  · have q0 : (v == 0) = false := by simp [e0]
    have z0 : decide (v = 0) = false := decide_eq_false e0
    by_cases e1 : v = 1
    · subst e1
      clear q0 z0 e0
      go_wp2_with fail
      refine (pickB_c 36525 (by decide) g code _ w _ HD.out.cur HB.out (by omega)).mono ?_
      rintro e w2 ⟨x, rfl, hx, hd⟩
      have HX := am_ hx
      clear hx
      have k_ := am_ (Dr.trans (by repeat first | exact HD.out | apply Dr.alloc | apply Dr.drewN | apply Dr.drew) hd)
      clear hd HD HB
      have HD := k_
      clear k_
      have HB := am_ HD.out.below
      go_wp2
      go_ret
      exact ⟨x, rfl, by have := HX.out; omega, HD.out.more (by omega)⟩
    · have q1 : (v == 1) = false := by simp [e1]
      have z1 : decide (v = 1) = false := decide_eq_false e1
      go_wp2_with fail
      refine (pickB_c 1500 (by decide) g code _ w _ HD.out.cur HB.out (by omega)).mono ?_
      rintro e w2 ⟨x, rfl, hx, hd⟩
      have HX := am_ hx
      clear hx
      have k_ := am_ (Dr.trans (by repeat first | exact HD.out | apply Dr.alloc | apply Dr.drewN | apply Dr.drew) hd)
      clear hd HD HB
      have HD := k_
      clear k_
      have HB := am_ HD.out.below
      go_wp2
      go_ret
      exact ⟨x, rfl, by have := HX.out; omega, HD.out.more (by omega)⟩
set_option maxHeartbeats 16000000 in
set_option maxRecDepth 100000 in
theorem near4_c (g : Nat) (code : List Int) (B : Int) (w wa : World) (hI : Cur w wa g code B) (hB : Below w.heap.size w wa) (hb : B ≤ 700000000000) :
    Calls Try.prog 97 #[.pointer (some ⟨g, 0, none⟩)] wa fun e w' => ∃ x, e = .returned (.int .i64 x) ∧ (-1000 ≤ x ∧ x ≤ 40000) ∧ Dr w wa w' g code (B + 10) := by
  have HD := am_ (Dr.refl hI hB (Int.le_refl B))
  have HB := am_ hB
  clear hI hB
  have HB0 := am_ HB.out
  go_enter Try.func97, Try.ntmps97
  go_wp2_with fail
  refine (day_c g code _ w _ HD.out.cur HB.out (by omega)).mono ?_
  rintro e w1 ⟨x, rfl, hx, hd⟩
  have HX := am_ hx
  clear hx
  have k_ := am_ (Dr.trans (by repeat first | exact HD.out | apply Dr.alloc | apply Dr.drewN | apply Dr.drew) hd)
  clear hd HD HB
  have HD := k_
  clear k_
  have HB := am_ HD.out.below
  go_wp2_with fail
  refine (one_c 3 (by decide) g code _ w _ HD.out.cur HB.out (by omega)).mono ?_
  rintro e w2 ⟨bb, rfl, hd⟩
  have k_ := am_ (Dr.trans (by repeat first | exact HD.out | apply Dr.alloc | apply Dr.drewN | apply Dr.drew) hd)
  clear hd HD HB
  have HD := k_
  clear k_
  have HB := am_ HD.out.below
  cases bb with
  | false =>
    go_wp2
    go_ret
    exact ⟨x, rfl, by have := HX.out; omega, HD.out.more (by omega)⟩
  | true =>
    obtain ⟨k1, hk1⟩ := roundsOf (specDateC_ev x HX.out)
    have HDT := am_ (dateC_is x HX.out)
    obtain ⟨DT, hDT⟩ : ∃ D, D = dateC x := ⟨_, rfl⟩
    rw [← hDT] at hk1 HDT
    clear hDT
    obtain ⟨y, m, d⟩ := DT
    have hy : 2000 ≤ y ∧ y ≤ 2099 := HDT.out.1
    have hm : 1 ≤ m ∧ m ≤ 12 := HDT.out.2.1
    have hdim := dim_bd y m
    have hdb := dby_bd y (by omega)
    have hcb := cum_bd y m
    obtain ⟨k2, hk2⟩ := roundsOf (l3Length_ev y m (by omega))
    obtain ⟨DMN, hDM⟩ : ∃ D, D = dimA y m := ⟨_, rfl⟩
    rw [← hDM] at hk2 hdim
    have HK1 := am_ hk1
    have HK2 := am_ hk2
    have HSD := am_ (fun p (hp : 0 ≤ p ∧ p ≤ 2) => specDay_ev y m (DMN - p) (by omega) (by omega) (by omega))
    have HXB := am_ (show ∀ p : Int, 0 ≤ p ∧ p ≤ 2 → -1000 ≤ dbyA y + cumA y m + (DMN - p) - 1 ∧ dbyA y + cumA y m + (DMN - p) - 1 ≤ 40000 from fun p hp => by omega)
    clear hk1 hk2 hDM HDT
    go_wp2_with fail
    refine (spec_l3Date.calls k1 x y m d _ HK1.out).mono ?_
    rintro e w3 ⟨rfl, hb⟩
    have k_ := am_ (Dr.bel (by repeat first | exact HD.out | apply Dr.alloc | apply Dr.drewN | apply Dr.drew) hb)
    clear hb HD HB
    have HD := k_
    clear k_
    have HB := am_ HD.out.below
    go_wp2_with fail
    have GA := am_ (show wa.heap.size ≤ w3.heap.size from HD.out.size)
    have NG := am_ (show g ≠ w3.heap.size from Nat.ne_of_lt (Cur.lt HD.out.cur))
    obtain ⟨W1, hW1⟩ : ∃ W1, W1 = w3.alloc (.cells #[.int .i64 y, .int .i64 m, .int .i64 d] 125) := ⟨_, rfl⟩
    have BK := am_ (show W1.heap[w3.heap.size]? = some (.cells #[.int .i64 y, .int .i64 m, .int .i64 d] 125 (0, 0)) from by rw [hW1]; exact blk_new w3 _)
    have k_ := am_ (show Dr w wa W1 g code _ from by rw [hW1]; exact Dr.alloc HD.out _)
    rw [← hW1]
    clear hW1 HD HB
    have HD := k_
    clear k_
    have HB := am_ HD.out.below
    generalize w3.heap.size = G at BK GA NG ⊢
    refine (spec_l3Length.calls k2 y m DMN _ HK2.out).mono ?_
    rintro e w4 ⟨rfl, hb0⟩
    have hb := db_ hb0
    clear hb0
    have BK2 := am_ (blk_below BK.out hb)
    have k_ := am_ (Dr.bel HD.out hb)
    clear hb HD HB BK
    have HD := k_
    have BK := BK2
    clear k_ BK2
    have HB := am_ HD.out.below
    go_wp2_with fail
    refine (pick_c 3 (by decide) g code _ w _ HD.out.cur HB.out (by omega)).mono ?_
    rintro e w5 ⟨p, rfl, ⟨p0, p1⟩, hd⟩
    have p2 := p1 (by decide)
    clear p1
    have BK2 := am_ (hd.2.2.blk (g' := G) (o := .cells #[.int .i64 y, .int .i64 m, .int .i64 d] 125 (0, 0)) BK.out NG.out.symm (by simp))
    have k_ := am_ (Dr.trans HD.out hd)
    clear hd HD HB BK
    have HD := k_
    have BK := BK2
    clear k_ BK2
    have HB := am_ HD.out.below
    have yk2 := (blk_cell BK.out 2).trans rfl
    have fk2 := blk_frozen BK.out 2
    go_upto_region 5 with (fail)
    clear yk2 fk2
    have BK2 := am_ (blk_put BK.out 2 (.int .i64 (DMN - p)) rfl)
    have k_ := am_ (Dr.set HD.out GA.out (below_size HB0.out) NG.out 2 (.int .i64 (DMN - p)))
    clear HD HB BK
    have HD := k_
    have BK := BK2
    clear k_ BK2
    have HB := am_ HD.out.below
    generalize w5.setCell ⟨G, 2, none⟩ (.int .i64 (DMN - p)) = w6 at HD HB BK ⊢
    have yk0 := (blk_cell BK.out 0).trans rfl
    have yk1 := (blk_cell BK.out 1).trans rfl
    have yk2 := (blk_cell BK.out 2).trans rfl
    obtain ⟨k3, hk3⟩ := roundsOf (HSD.out p ⟨p0, by omega⟩)
    have HK3 := am_ hk3
    have HXP := am_ (HXB.out p ⟨p0, by omega⟩)
    clear hk3
    go_wp2_with fail
    refine (spec_l3Day.calls k3 y m (DMN - p) _ _ HK3.out).mono ?_
    rintro e w7 ⟨rfl, hb⟩
    have k_ := am_ (Dr.bel HD.out hb)
    clear hb HD HB
    have HD := k_
    clear k_
    have HB := am_ HD.out.below
    go_wp2
    go_ret
    exact ⟨_, rfl, HXP.out, HD.out.more (by omega)⟩
set_option maxHeartbeats 16000000 in
set_option maxRecDepth 100000 in
theorem anyDay_c (g : Nat) (code : List Int) (B : Int) (w wa : World) (hI : Cur w wa g code B) (hB : Below w.heap.size w wa) (hb : B ≤ 600000000000) :
    Calls Try.prog 114 #[.pointer (some ⟨g, 0, none⟩)] wa fun e w' => ∃ x, e = .returned (.int .i64 x) ∧ Dr w wa w' g code (B + 5) := by
  have HD := am_ (Dr.refl hI hB (Int.le_refl B))
  have HB := am_ hB
  clear hI hB
  go_enter Try.func114, Try.ntmps114
  go_wp2_with fail
  refine (one_c 16 (by decide) g code _ w _ HD.out.cur HB.out (by omega)).mono ?_
  rintro e w2 ⟨bb, rfl, hd⟩
  have k_ := am_ (Dr.trans (by repeat first | exact HD.out | apply Dr.alloc | apply Dr.drewN | apply Dr.drew) hd)
  clear hd HD HB
  have HD := k_
  clear k_
  have HB := am_ HD.out.below
  cases bb with
  | true =>
    go_wp2_with fail
    refine (among_c [-1, 36524, 36525, 1099511627776] w2.heap.size 4 4 (by decide) g code _ w _ (HD.out.alloc _).cur (ba_ HB.out _) (by omega) (blk_new _ _)).mono ?_
    rintro e w3 ⟨x, rfl, _, hd⟩
    have k_ := am_ (Dr.trans (Dr.alloc HD.out _) hd)
    clear hd HD HB
    have HD := k_
    clear k_
    have HB := am_ HD.out.below
    go_wp2
    go_ret
    exact ⟨x, rfl, HD.out.more (by omega)⟩
  | false =>
    go_wp2_with fail
    refine (day_c g code _ w _ HD.out.cur HB.out (by omega)).mono ?_
    rintro e w3 ⟨x, rfl, _, hd⟩
    have k_ := am_ (Dr.trans (by repeat first | exact HD.out | apply Dr.alloc | apply Dr.drewN | apply Dr.drew) hd)
    clear hd HD HB
    have HD := k_
    clear k_
    have HB := am_ HD.out.below
    go_wp2
    go_ret
    exact ⟨x, rfl, HD.out.more (by omega)⟩
theorem in_bd (ls : List Int) (lo hi : Int) (h : ls.all (fun x => decide (lo ≤ x ∧ x ≤ hi)) = true) : ∀ x ∈ ls, lo ≤ x ∧ x ≤ hi := fun x hx => of_decide_eq_true (List.all_eq_true.mp h x hx)
set_option maxHeartbeats 16000000 in
set_option maxRecDepth 100000 in
theorem drawDC_c (A : Option Addr) (c : Nat) (code : List Int) (w : World) (hr : (Kd.int .u8).C w A code.length code) (hx : ∀ x ∈ code, 0 ≤ x ∧ x ≤ 255) :
    Calls Try.prog 89 #[.slice A code.length c] w fun e w' => ∃ a b k, e = .returned (.tuple #[.int .i64 a, .int .i64 b, .int .i64 k]) ∧ Below w.heap.size w w' := by
  have HC := am_ (fun hb => Cur.new (w0 := w) (w := w) (c := c) hb hr hx)
  clear hr hx
  go_enter Try.func89, Try.ntmps89
  go_wp2_with fail
  have HC1 := am_ (HC.out (Below.refl _ _))
  have HB1 := am_ (ba_ (Below.refl w.heap.size w) (.cells #[.slice A code.length c, .int .i64 0, .int .u64 0] 108))
  clear HC
  obtain ⟨wa, hwa⟩ : ∃ W, W = w.alloc (.cells #[.slice A code.length c, .int .i64 0, .int .u64 0] 108) := ⟨_, rfl⟩
  rw [← hwa] at HC1 HB1 ⊢
  clear hwa
  generalize w.heap.size = g at HC1 ⊢
  refine (near4_c g code 0 w _ HC1.out HB1.out (by omega)).mono ?_
  rintro e w2 ⟨a, rfl, ha, hd⟩
  have a0 := ha.1
  have a1 := ha.2
  have HD := am_ hd
  have HB := am_ hd.below
  clear hd ha HC1 HB1
  go_wp2_with fail
  refine (among_c [0, 1, 28, 30, 31, 59, 90, 181, 365, 366, 900, -1] w2.heap.size 12 12 (by decide) g code _ w _ (HD.out.alloc _).cur (ba_ HB.out _) (by omega) (blk_new _ _)).mono ?_
  rintro e w3 ⟨x, rfl, hx, hd⟩
  have hxb := in_bd [0, 1, 28, 30, 31, 59, 90, 181, 365, 366, 900, -1] (-1) 900 (by decide) x hx
  have x0 := hxb.1
  have x1 := hxb.2
  clear hx hxb
  have k_ := am_ (Dr.trans (Dr.alloc HD.out _) hd)
  clear hd HD HB
  have HD := k_
  clear k_
  have HB := am_ HD.out.below
  go_wp2_with fail
  refine (one_c 4 (by decide) g code _ w _ HD.out.cur HB.out (by omega)).mono ?_
  rintro e w4 ⟨bb, rfl, hd⟩
  have k_ := am_ (Dr.trans (by repeat first | exact HD.out | apply Dr.alloc | apply Dr.drewN | apply Dr.drew) hd)
  clear hd HD HB
  have HD := k_
  clear k_
  have HB := am_ HD.out.below
  cases bb with
  | false =>
    go_wp2_with fail
    refine (one_c 30 (by decide) g code _ w _ HD.out.cur HB.out (by omega)).mono ?_
    rintro e w6 ⟨b2, rfl, hd⟩
    have k_ := am_ (Dr.trans (by repeat first | exact HD.out | apply Dr.alloc | apply Dr.drewN | apply Dr.drew) hd)
    clear hd HD HB
    have HD := k_
    clear k_
    have HB := am_ HD.out.below
    cases b2 with
    | false =>
      go_wp2_with fail
      refine (among_c [1, 2, 3, 4, 1, 2, 3, 4, 0, 5] w6.heap.size 10 10 (by decide) g code _ w _ (HD.out.alloc _).cur (ba_ HB.out _) (by omega) (blk_new _ _)).mono ?_
      rintro e w9 ⟨k, rfl, _, hd⟩
      have k_ := am_ (Dr.trans (Dr.alloc HD.out _) hd)
      clear hd HD HB
      have HD := k_
      clear k_
      have HB := am_ HD.out.below
      go_wp2
      go_ret3
      exact ⟨a, a + x, k, rfl, (by repeat first | (with_reducible first | exact HB.out | apply ba_ | apply bn_ | apply bd_) | exact HB.out)⟩
    | true =>
      go_wp2_with fail
      refine (anyDay_c g code _ w _ HD.out.cur HB.out (by omega)).mono ?_
      rintro e w7 ⟨y, rfl, hd⟩
      have k_ := am_ (Dr.trans (by repeat first | exact HD.out | apply Dr.alloc | apply Dr.drewN | apply Dr.drew) hd)
      clear hd HD HB
      have HD := k_
      clear k_
      have HB := am_ HD.out.below
      go_wp2_with fail
      refine (among_c [1, 2, 3, 4, 1, 2, 3, 4, 0, 5] w7.heap.size 10 10 (by decide) g code _ w _ (HD.out.alloc _).cur (ba_ HB.out _) (by omega) (blk_new _ _)).mono ?_
      rintro e w9 ⟨k, rfl, _, hd⟩
      have k_ := am_ (Dr.trans (Dr.alloc HD.out _) hd)
      clear hd HD HB
      have HD := k_
      clear k_
      have HB := am_ HD.out.below
      go_wp2
      go_ret3
      exact ⟨a, y, k, rfl, (by repeat first | (with_reducible first | exact HB.out | apply ba_ | apply bn_ | apply bd_) | exact HB.out)⟩
  | true =>
    go_wp2_with fail
    refine (near4_c g code _ w _ HD.out.cur HB.out (by omega)).mono ?_
    rintro e w5 ⟨bq, rfl, hbb, hd⟩
    clear hbb
    have k_ := am_ (Dr.trans (by repeat first | exact HD.out | apply Dr.alloc | apply Dr.drewN | apply Dr.drew) hd)
    clear hd HD HB
    have HD := k_
    clear k_
    have HB := am_ HD.out.below
    go_wp2_with fail
    refine (one_c 30 (by decide) g code _ w _ HD.out.cur HB.out (by omega)).mono ?_
    rintro e w6 ⟨b2, rfl, hd⟩
    have k_ := am_ (Dr.trans (by repeat first | exact HD.out | apply Dr.alloc | apply Dr.drewN | apply Dr.drew) hd)
    clear hd HD HB
    have HD := k_
    clear k_
    have HB := am_ HD.out.below
    cases b2 with
    | false =>
      go_wp2_with fail
      refine (among_c [1, 2, 3, 4, 1, 2, 3, 4, 0, 5] w6.heap.size 10 10 (by decide) g code _ w _ (HD.out.alloc _).cur (ba_ HB.out _) (by omega) (blk_new _ _)).mono ?_
      rintro e w9 ⟨k, rfl, _, hd⟩
      have k_ := am_ (Dr.trans (Dr.alloc HD.out _) hd)
      clear hd HD HB
      have HD := k_
      clear k_
      have HB := am_ HD.out.below
      go_wp2
      go_ret3
      exact ⟨a, bq, k, rfl, (by repeat first | (with_reducible first | exact HB.out | apply ba_ | apply bn_ | apply bd_) | exact HB.out)⟩
    | true =>
      go_wp2_with fail
      refine (anyDay_c g code _ w _ HD.out.cur HB.out (by omega)).mono ?_
      rintro e w7 ⟨y, rfl, hd⟩
      have k_ := am_ (Dr.trans (by repeat first | exact HD.out | apply Dr.alloc | apply Dr.drewN | apply Dr.drew) hd)
      clear hd HD HB
      have HD := k_
      clear k_
      have HB := am_ HD.out.below
      go_wp2_with fail
      refine (among_c [1, 2, 3, 4, 1, 2, 3, 4, 0, 5] w7.heap.size 10 10 (by decide) g code _ w _ (HD.out.alloc _).cur (ba_ HB.out _) (by omega) (blk_new _ _)).mono ?_
      rintro e w9 ⟨k, rfl, _, hd⟩
      have k_ := am_ (Dr.trans (Dr.alloc HD.out _) hd)
      clear hd HD HB
      have HD := k_
      clear k_
      have HB := am_ HD.out.below
      go_wp2
      go_ret3
      exact ⟨a, y, k, rfl, (by repeat first | (with_reducible first | exact HB.out | apply ba_ | apply bn_ | apply bd_) | exact HB.out)⟩
set_option maxHeartbeats 16000000 in
set_option maxRecDepth 100000 in
theorem fraction_c (g : Nat) (code : List Int) (B : Int) (w wa : World) (hI : Cur w wa g code B) (hB : Below w.heap.size w wa) (hb : B ≤ 850000000000) :
    Calls Try.prog 129 #[.pointer (some ⟨g, 0, none⟩)] wa fun e w' => ∃ n d, e = .returned (.agg #[.int .i64 n, .int .i64 d]) ∧ Dr w wa w' g code (B + 2) := by
  have HD := am_ (Dr.refl hI hB (Int.le_refl B))
  have HB := am_ hB
  have HB0 := am_ hB
  have hgl := hI.lt
  clear hI hB
  go_enter Try.func129, Try.ntmps129
  go_wp2_with fail
  refine (pick_c 19 (by decide) g code _ w _ (HD.out.alloc _).cur (ba_ HB.out _) (by omega)).mono ?_
  rintro e w2 ⟨v, rfl, ⟨v0, v1⟩, hd⟩
  have v2 := v1 (by decide)
  clear v1
  have BKg1 := am_ (hd.2.2.blk (g' := wa.heap.size) (o := .cells #[.int .i64 0, .int .i64 0] 24 (0, 0)) (blk_new wa _) (Nat.ne_of_gt hgl) (by simp))
  have k_ := am_ ((HD.out.alloc _).trans hd)
  clear HD HB hd
  have HD := k_
  clear k_
  have HB := am_ HD.out.below
  obtain ⟨g1, hbE⟩ : ∃ b, b = wa.heap.size := ⟨_, rfl⟩
  have GAg1 := am_ (show wa.heap.size ≤ g1 from by omega)
  have NGg1 := am_ (show g ≠ g1 from by omega)
  rw [← hbE] at BKg1 ⊢
  clear hbE hgl
  go_wp2_with fail
  refine (pick_c 12 (by decide) g code _ w _ HD.out.cur HB.out (by omega)).mono ?_
  rintro e w3 ⟨u, rfl, ⟨u0, u1⟩, hd⟩
  have u2 := u1 (by decide)
  clear u1
  have m_g1 := am_ (hd.2.2.blk (g' := g1) (o := .cells #[.int .i64 0, .int .i64 0] 24 (0, 0)) (by repeat first | exact BKg1.out | refine ka_ ?_ _ | refine kn_ ?_ _ | refine kd_ ?_) NGg1.out.symm (by simp))
  have k_ := am_ (Dr.trans HD.out hd)
  clear hd HD HB BKg1
  have HD := k_
  clear k_
  have HB := am_ HD.out.below
  have BKg1 := m_g1
  clear m_g1
  obtain ⟨kR, hR⟩ := roundsOf (specReduce_ev (v - 6) (1 + u) (by omega) (by omega) (by omega))
  obtain ⟨FA, hFA⟩ : ∃ F, F = fracA (v - 6) (1 + u) := ⟨_, rfl⟩
  rw [← hFA] at hR
  clear hFA
  obtain ⟨rn, rd, ro⟩ := FA
  have HR := am_ hR
  clear hR
  go_wp2_with fail
  refine (spec_l2Reduce.calls kR (v - 6) (1 + u) rn rd ro _ HR.out).mono ?_
  rintro e w4 ⟨rfl, hb⟩
  have m_g1 := am_ (blk_below (by repeat first | exact BKg1.out | refine blk_alloc ?_ _ | refine kn_ ?_ _ | refine kd_ ?_) hb)
  have k_ := am_ (Dr.bel (by repeat first | exact HD.out | apply Dr.alloc | apply Dr.drewN | apply Dr.drew) hb)
  clear hb HD HB BKg1
  have HD := k_
  clear k_
  have HB := am_ HD.out.below
  have BKg1 := m_g1
  clear m_g1
  go_upto_region 2 with (fail)
  obtain ⟨W1, hW1⟩ : ∃ W1, W1 = w4.alloc (.cells #[.int .i64 rn, .int .i64 rd] 24) := ⟨_, rfl⟩
  have BKg3 := am_ (show W1.heap[w4.heap.size]? = some (.cells #[.int .i64 rn, .int .i64 rd] 24 (0, 0)) from by rw [hW1]; exact blk_new w4 _)
  have n1 := am_ (show W1.heap[g1]? = some (.cells #[.int .i64 0, .int .i64 0] 24 (0, 0)) from by rw [hW1]; exact blk_alloc BKg1.out _)
  have n2 := am_ (show Dr w wa W1 g code _ from by rw [hW1]; exact HD.out.alloc _)
  have hne : g1 ≠ w4.heap.size := Nat.ne_of_lt (blk_lt BKg1.out)
  rw [← hW1]
  clear hW1 HD HB BKg1
  have HD := n2
  have BKg1 := n1
  clear n1 n2
  generalize w4.heap.size = g3 at BKg3 hne ⊢
  have yg1_0 : W1.cell? ⟨g1, 0, none⟩ = some (.int .i64 0) := (blk_cell BKg1.out 0).trans rfl; have fg1_0 := blk_frozen BKg1.out 0; have yg1_1 : W1.cell? ⟨g1, 1, none⟩ = some (.int .i64 0) := (blk_cell BKg1.out 1).trans rfl; have fg1_1 := blk_frozen BKg1.out 1
  have yg3_0 : W1.cell? ⟨g3, 0, none⟩ = some (.int .i64 rn) := (blk_cell BKg3.out 0).trans rfl; have fg3_0 := blk_frozen BKg3.out 0; have yg3_1 : W1.cell? ⟨g3, 1, none⟩ = some (.int .i64 rd) := (blk_cell BKg3.out 1).trans rfl; have fg3_1 := blk_frozen BKg3.out 1
  have hne2 := Ne.symm hne
  go_wp2
  refine bodyPost_ret (results_single rfl (.cell g1 24 #[.int .i64 rn, .int .i64 rd] (0, 0) _ rfl (by (with_reducible repeat first | refine kn_ ?_ _ | refine kd_ ?_ | refine ka_ ?_ _); refine blk_put (cs := #[.int .i64 rn, .int .i64 0]) ?_ 1 _ rfl; (with_reducible repeat first | refine kn_ ?_ _ | refine kd_ ?_ | refine ka_ ?_ _); refine blk_put (cs := #[.int .i64 0, .int .i64 0]) ?_ 0 _ rfl; (with_reducible repeat first | refine kn_ ?_ _ | refine kd_ ?_ | refine ka_ ?_ _); exact BKg1.out) Try.underlying24 rfl (by kernel_rfl) .nil)) rfl ?_
  exact ⟨_, _, rfl, Dr.more (by repeat first | exact HD.out | apply Dr.set (hq := GAg1.out) (hb := below_size HB0.out) (hg := NGg1.out) | apply Dr.alloc | apply Dr.drewN | apply Dr.drew) (by omega)⟩
set_option maxHeartbeats 16000000 in
set_option maxRecDepth 100000 in
theorem anyFraction_c (g : Nat) (code : List Int) (B : Int) (w wa : World) (hI : Cur w wa g code B) (hB : Below w.heap.size w wa) (hb : B ≤ 800000000000) :
    Calls Try.prog 116 #[.pointer (some ⟨g, 0, none⟩)] wa fun e w' => ∃ n d, e = .returned (.agg #[.int .i64 n, .int .i64 d]) ∧ Dr w wa w' g code (B + 3) := by
  have HD := am_ (Dr.refl hI hB (Int.le_refl B))
  have HB := am_ hB
  have HB0 := am_ hB
  have hgl := hI.lt
  clear hI hB
  go_enter Try.func116, Try.ntmps116
  go_wp2_with fail
  refine (pick_c 16 (by decide) g code _ w _ (HD.out.alloc _).cur (ba_ HB.out _) (by omega)).mono ?_
  rintro e w2 ⟨v, rfl, _, hd⟩
  have BKg1 := am_ (hd.2.2.blk (g' := wa.heap.size) (o := .cells #[.int .i64 0, .int .i64 0] 24 (0, 0)) (blk_new wa _) (Nat.ne_of_gt hgl) (by simp))
  have k_ := am_ ((HD.out.alloc _).trans hd)
  clear HD HB hd
  have HD := k_
  clear k_
  have HB := am_ HD.out.below
  obtain ⟨g1, hbE⟩ : ∃ b, b = wa.heap.size := ⟨_, rfl⟩
  have GAg1 := am_ (show wa.heap.size ≤ g1 from by omega)
  have NGg1 := am_ (show g ≠ g1 from by omega)
  rw [← hbE] at BKg1 ⊢
  clear hbE hgl
  by_cases e0 : v = 0
  · have q0 : (v == 0) = true := by simp [e0]
    have z0 : decide (v = 0) = true := decide_eq_true e0
    clear e0
    have yg1_0 : w2.cell? ⟨g1, 0, none⟩ = some (.int .i64 0) := (blk_cell BKg1.out 0).trans rfl; have fg1_0 := blk_frozen BKg1.out 0; have yg1_1 : w2.cell? ⟨g1, 1, none⟩ = some (.int .i64 0) := (blk_cell BKg1.out 1).trans rfl; have fg1_1 := blk_frozen BKg1.out 1
    go_wp2
    refine bodyPost_ret (results_single rfl (.cell g1 24 #[.int .i64 2, .int .i64 4] (0, 0) _ rfl (by (with_reducible repeat first | refine kn_ ?_ _ | refine kd_ ?_ | refine ka_ ?_ _); refine blk_put (cs := #[.int .i64 2, .int .i64 0]) ?_ 1 _ rfl; (with_reducible repeat first | refine kn_ ?_ _ | refine kd_ ?_ | refine ka_ ?_ _); refine blk_put (cs := #[.int .i64 0, .int .i64 0]) ?_ 0 _ rfl; (with_reducible repeat first | refine kn_ ?_ _ | refine kd_ ?_ | refine ka_ ?_ _); exact BKg1.out) Try.underlying24 rfl (by kernel_rfl) .nil)) rfl ?_
    exact ⟨_, _, rfl, Dr.more (by repeat first | exact HD.out | apply Dr.set (hq := GAg1.out) (hb := below_size HB0.out) (hg := NGg1.out) | apply Dr.alloc | apply Dr.drewN | apply Dr.drew) (by omega)⟩
  have q0 : (v == 0) = false := by simp [e0]
  have z0 : decide (v = 0) = false := decide_eq_false e0
  clear e0
  by_cases e1 : v = 1
  · have q1 : (v == 1) = true := by simp [e1]
    have z1 : decide (v = 1) = true := decide_eq_true e1
    clear e1
    go_wp2_with fail
    refine (pick_c 3 (by decide) g code _ w _ HD.out.cur HB.out (by omega)).mono ?_
    rintro e w3 ⟨x, rfl, _, hd⟩
    have m_g1 := am_ (hd.2.2.blk (g' := g1) (o := .cells #[.int .i64 0, .int .i64 0] 24 (0, 0)) (by repeat first | exact BKg1.out | refine ka_ ?_ _ | refine kn_ ?_ _ | refine kd_ ?_) NGg1.out.symm (by simp))
    have k_ := am_ (Dr.trans HD.out hd)
    clear hd HD HB BKg1
    have HD := k_
    clear k_
    have HB := am_ HD.out.below
    have BKg1 := m_g1
    clear m_g1
    go_wp2_with fail
    refine (among_c [0, -1, 1000000000, 1000000001] w3.heap.size 4 4 (by decide) g code _ w _ (HD.out.alloc _).cur (ba_ HB.out _) (by omega) (blk_new _ _)).mono ?_
    rintro e w4 ⟨y, rfl, _, hd⟩
    have m_g1 := am_ (hd.2.2.blk (g' := g1) (o := .cells #[.int .i64 0, .int .i64 0] 24 (0, 0)) (by repeat first | exact BKg1.out | refine ka_ ?_ _ | refine kn_ ?_ _ | refine kd_ ?_) NGg1.out.symm (by simp))
    have k_ := am_ (Dr.trans (by repeat first | exact HD.out | apply Dr.alloc | apply Dr.drewN | apply Dr.drew) hd)
    clear hd HD HB BKg1
    have HD := k_
    clear k_
    have HB := am_ HD.out.below
    have BKg1 := m_g1
    clear m_g1
    have yg1_0 : w4.cell? ⟨g1, 0, none⟩ = some (.int .i64 0) := (blk_cell BKg1.out 0).trans rfl; have fg1_0 := blk_frozen BKg1.out 0; have yg1_1 : w4.cell? ⟨g1, 1, none⟩ = some (.int .i64 0) := (blk_cell BKg1.out 1).trans rfl; have fg1_1 := blk_frozen BKg1.out 1
    go_wp2
    refine bodyPost_ret (results_single rfl (.cell g1 24 #[.int .i64 x, .int .i64 y] (0, 0) _ rfl (by (with_reducible repeat first | refine kn_ ?_ _ | refine kd_ ?_ | refine ka_ ?_ _); refine blk_put (cs := #[.int .i64 x, .int .i64 0]) ?_ 1 _ rfl; (with_reducible repeat first | refine kn_ ?_ _ | refine kd_ ?_ | refine ka_ ?_ _); refine blk_put (cs := #[.int .i64 0, .int .i64 0]) ?_ 0 _ rfl; (with_reducible repeat first | refine kn_ ?_ _ | refine kd_ ?_ | refine ka_ ?_ _); exact BKg1.out) Try.underlying24 rfl (by kernel_rfl) .nil)) rfl ?_
    exact ⟨_, _, rfl, Dr.more (by repeat first | exact HD.out | apply Dr.set (hq := GAg1.out) (hb := below_size HB0.out) (hg := NGg1.out) | apply Dr.alloc | apply Dr.drewN | apply Dr.drew) (by omega)⟩
  have q1 : (v == 1) = false := by simp [e1]
  have z1 : decide (v = 1) = false := decide_eq_false e1
  clear e1
  by_cases e2 : v = 2
  · have q2 : (v == 2) = true := by simp [e2]
    have z2 : decide (v = 2) = true := decide_eq_true e2
    clear e2
    go_wp2_with fail
    refine (among_c [999999999, -999999999, 1000000001] w2.heap.size 3 3 (by decide) g code _ w _ (HD.out.alloc _).cur (ba_ HB.out _) (by omega) (blk_new _ _)).mono ?_
    rintro e w3 ⟨x, rfl, _, hd⟩
    have m_g1 := am_ (hd.2.2.blk (g' := g1) (o := .cells #[.int .i64 0, .int .i64 0] 24 (0, 0)) (by repeat first | exact BKg1.out | refine ka_ ?_ _ | refine kn_ ?_ _ | refine kd_ ?_) NGg1.out.symm (by simp))
    have k_ := am_ (Dr.trans (by repeat first | exact HD.out | apply Dr.alloc | apply Dr.drewN | apply Dr.drew) hd)
    clear hd HD HB BKg1
    have HD := k_
    clear k_
    have HB := am_ HD.out.below
    have BKg1 := m_g1
    clear m_g1
    go_wp2_with fail
    refine (among_c [1, 1000000000, 2] w3.heap.size 3 3 (by decide) g code _ w _ (HD.out.alloc _).cur (ba_ HB.out _) (by omega) (blk_new _ _)).mono ?_
    rintro e w4 ⟨y, rfl, _, hd⟩
    have m_g1 := am_ (hd.2.2.blk (g' := g1) (o := .cells #[.int .i64 0, .int .i64 0] 24 (0, 0)) (by repeat first | exact BKg1.out | refine ka_ ?_ _ | refine kn_ ?_ _ | refine kd_ ?_) NGg1.out.symm (by simp))
    have k_ := am_ (Dr.trans (by repeat first | exact HD.out | apply Dr.alloc | apply Dr.drewN | apply Dr.drew) hd)
    clear hd HD HB BKg1
    have HD := k_
    clear k_
    have HB := am_ HD.out.below
    have BKg1 := m_g1
    clear m_g1
    have yg1_0 : w4.cell? ⟨g1, 0, none⟩ = some (.int .i64 0) := (blk_cell BKg1.out 0).trans rfl; have fg1_0 := blk_frozen BKg1.out 0; have yg1_1 : w4.cell? ⟨g1, 1, none⟩ = some (.int .i64 0) := (blk_cell BKg1.out 1).trans rfl; have fg1_1 := blk_frozen BKg1.out 1
    go_wp2
    refine bodyPost_ret (results_single rfl (.cell g1 24 #[.int .i64 x, .int .i64 y] (0, 0) _ rfl (by (with_reducible repeat first | refine kn_ ?_ _ | refine kd_ ?_ | refine ka_ ?_ _); refine blk_put (cs := #[.int .i64 x, .int .i64 0]) ?_ 1 _ rfl; (with_reducible repeat first | refine kn_ ?_ _ | refine kd_ ?_ | refine ka_ ?_ _); refine blk_put (cs := #[.int .i64 0, .int .i64 0]) ?_ 0 _ rfl; (with_reducible repeat first | refine kn_ ?_ _ | refine kd_ ?_ | refine ka_ ?_ _); exact BKg1.out) Try.underlying24 rfl (by kernel_rfl) .nil)) rfl ?_
    exact ⟨_, _, rfl, Dr.more (by repeat first | exact HD.out | apply Dr.set (hq := GAg1.out) (hb := below_size HB0.out) (hg := NGg1.out) | apply Dr.alloc | apply Dr.drewN | apply Dr.drew) (by omega)⟩
  have q2 : (v == 2) = false := by simp [e2]
  have z2 : decide (v = 2) = false := decide_eq_false e2
  clear e2
  go_wp2_with fail
  refine (fraction_c g code _ w _ HD.out.cur HB.out (by omega)).mono ?_
  rintro e w3 ⟨x, y, rfl, hd⟩
  have m_g1 := am_ (hd.2.2.blk (g' := g1) (o := .cells #[.int .i64 0, .int .i64 0] 24 (0, 0)) (by repeat first | exact BKg1.out | refine ka_ ?_ _ | refine kn_ ?_ _ | refine kd_ ?_) NGg1.out.symm (by simp))
  have k_ := am_ (Dr.trans HD.out hd)
  clear hd HD HB BKg1
  have HD := k_
  clear k_
  have HB := am_ HD.out.below
  have BKg1 := m_g1
  clear m_g1
  have yg1_0 : w3.cell? ⟨g1, 0, none⟩ = some (.int .i64 0) := (blk_cell BKg1.out 0).trans rfl; have fg1_0 := blk_frozen BKg1.out 0; have yg1_1 : w3.cell? ⟨g1, 1, none⟩ = some (.int .i64 0) := (blk_cell BKg1.out 1).trans rfl; have fg1_1 := blk_frozen BKg1.out 1
  go_wp2
  refine bodyPost_ret (results_single rfl (.cell g1 24 #[.int .i64 x, .int .i64 y] (0, 0) _ rfl (by (with_reducible repeat first | refine kn_ ?_ _ | refine kd_ ?_ | refine ka_ ?_ _); refine blk_put (cs := #[.int .i64 x, .int .i64 0]) ?_ 1 _ rfl; (with_reducible repeat first | refine kn_ ?_ _ | refine kd_ ?_ | refine ka_ ?_ _); refine blk_put (cs := #[.int .i64 0, .int .i64 0]) ?_ 0 _ rfl; (with_reducible repeat first | refine kn_ ?_ _ | refine kd_ ?_ | refine ka_ ?_ _); exact BKg1.out) Try.underlying24 rfl (by kernel_rfl) .nil)) rfl ?_
  exact ⟨_, _, rfl, Dr.more (by repeat first | exact HD.out | apply Dr.set (hq := GAg1.out) (hb := below_size HB0.out) (hg := NGg1.out) | apply Dr.alloc | apply Dr.drewN | apply Dr.drew) (by omega)⟩
set_option maxHeartbeats 16000000 in
set_option maxRecDepth 100000 in
theorem principal_c (g : Nat) (code : List Int) (B : Int) (w wa : World) (hI : Cur w wa g code B) (hB : Below w.heap.size w wa) (hb : B ≤ 600000000000) :
    Calls Try.prog 91 #[.pointer (some ⟨g, 0, none⟩)] wa fun e w' => ∃ x, e = .returned (.int .i64 x) ∧ Dr w wa w' g code (B + 2) := by
  have HD := am_ (Dr.refl hI hB (Int.le_refl B))
  have HB := am_ hB
  clear hI hB
  go_enter Try.func91, Try.ntmps91
  go_wp2_with fail
  refine (pick_c 24 (by decide) g code _ w _ (HD.out.alloc _).cur (ba_ HB.out _) (by omega)).mono ?_
  rintro e w2 ⟨v, rfl, ⟨v0, v1⟩, hd⟩
  have HBK := am_ (hd.2.2.blk (g' := wa.heap.size) (o := .cells (numsA [0, 100, 1000, 12345, 360000, 1000000, 99999999, 1000000000, -1]) 3 (0, 0)) (blk_new wa _) (Nat.ne_of_gt (Cur.lt HD.out.cur)) (by simp))
  have v2 := v1 (by decide)
  clear v1
  have k_ := am_ (Dr.trans (by repeat first | exact HD.out | apply Dr.alloc | apply Dr.drewN | apply Dr.drew) hd)
  clear hd HD HB
  have HD := k_
  clear k_
  have HB := am_ HD.out.below
  generalize wa.heap.size = b at HBK ⊢
  by_cases c0 : v < 23
  · have q1 : v.tdiv 23 = 0 := by rw [Int.tdiv_eq_ediv_of_nonneg v0]; omega
    have q2 : v / 23 = 0 := by omega
    go_wp2_with fail
    refine (among_c [0, 100, 1000, 12345, 360000, 1000000, 99999999, 1000000000, -1] b 8 9 (by decide) g code _ w _ HD.out.cur HB.out (by omega) HBK.out).mono ?_
    rintro e w3 ⟨x, rfl, _, hd⟩
    clear q1 q2 v0 v2
    have k_ := am_ (Dr.trans (by repeat first | exact HD.out | apply Dr.alloc | apply Dr.drewN | apply Dr.drew) hd)
    clear hd HD HB
    have HD := k_
    clear k_
    have HB := am_ HD.out.below
    clear HBK
    go_wp2
    go_ret
    exact ⟨x, rfl, HD.out.more (by omega)⟩
  · have q1 : v.tdiv 23 = 1 := by rw [Int.tdiv_eq_ediv_of_nonneg v0]; omega
    have q2 : v / 23 = 1 := by omega
    go_wp2_with fail
    refine (among_c [0, 100, 1000, 12345, 360000, 1000000, 99999999, 1000000000, -1] b 9 9 (by decide) g code _ w _ HD.out.cur HB.out (by omega) HBK.out).mono ?_
    rintro e w3 ⟨x, rfl, _, hd⟩
    clear q1 q2 v0 v2
    have k_ := am_ (Dr.trans (by repeat first | exact HD.out | apply Dr.alloc | apply Dr.drewN | apply Dr.drew) hd)
    clear hd HD HB
    have HD := k_
    clear k_
    have HB := am_ HD.out.below
    clear HBK
    go_wp2
    go_ret
    exact ⟨x, rfl, HD.out.more (by omega)⟩
set_option maxHeartbeats 16000000 in
set_option maxRecDepth 100000 in
theorem terms15_c (g : Nat) (code : List Int) (B : Int) (w wa : World) (hI : Cur w wa g code B) (hB : Below w.heap.size w wa) (hb : B ≤ 600000000000) :
    Calls Try.prog 90 #[.pointer (some ⟨g, 0, none⟩)] wa fun e w' => ∃ x y, e = .returned (.tuple #[.int .i64 x, .int .i64 y]) ∧ Dr w wa w' g code (B + 4) := by
  have HD := am_ (Dr.refl hI hB (Int.le_refl B))
  have HB := am_ hB
  clear hI hB
  go_enter Try.func90, Try.ntmps90
  go_wp2_with fail
  refine (pick_c 24 (by decide) g code _ w _ (HD.out.alloc _).cur (ba_ HB.out _) (by omega)).mono ?_
  rintro e w2 ⟨v, rfl, ⟨v0, v1⟩, hd⟩
  have HBK := am_ (hd.2.2.blk (g' := wa.heap.size) (o := .cells (numsA [1, 2, 3, 4, 1, 2, 3, 4, 0]) 3 (0, 0)) (blk_new wa _) (Nat.ne_of_gt (Cur.lt HD.out.cur)) (by simp))
  have v2 := v1 (by decide)
  clear v1
  have k_ := am_ (Dr.trans (by repeat first | exact HD.out | apply Dr.alloc | apply Dr.drewN | apply Dr.drew) hd)
  clear hd HD HB
  have HD := k_
  clear k_
  have HB := am_ HD.out.below
  generalize wa.heap.size = b at HBK ⊢
  by_cases c0 : v < 23
  · have q1 : v.tdiv 23 = 0 := by rw [Int.tdiv_eq_ediv_of_nonneg v0]; omega
    have q2 : v / 23 = 0 := by omega
    go_wp2_with fail
    refine (among_c [1, 2, 3, 4, 1, 2, 3, 4, 0] b 8 9 (by decide) g code _ w _ HD.out.cur HB.out (by omega) HBK.out).mono ?_
    rintro e w3 ⟨x, rfl, _, hd⟩
    clear q1 q2 v0 v2
    have k_ := am_ (Dr.trans (by repeat first | exact HD.out | apply Dr.alloc | apply Dr.drewN | apply Dr.drew) hd)
    clear hd HD HB
    have HD := k_
    clear k_
    have HB := am_ HD.out.below
    clear HBK
    go_wp2_with fail
    refine (pick_c 24 (by decide) g code _ w _ (HD.out.alloc _).cur (ba_ HB.out _) (by omega)).mono ?_
    rintro e w4 ⟨v, rfl, ⟨v0, v1⟩, hd⟩
    have HBK := am_ (hd.2.2.blk (g' := w3.heap.size) (o := .cells (numsA [1, 2, 3, 4, 1, 2, 3, 4, 5]) 3 (0, 0)) (blk_new w3 _) (Nat.ne_of_gt (Cur.lt HD.out.cur)) (by simp))
    have v2 := v1 (by decide)
    clear v1
    have k_ := am_ (Dr.trans (by repeat first | exact HD.out | apply Dr.alloc | apply Dr.drewN | apply Dr.drew) hd)
    clear hd HD HB
    have HD := k_
    clear k_
    have HB := am_ HD.out.below
    generalize w3.heap.size = b at HBK ⊢
    by_cases c0 : v < 23
    · have q1 : v.tdiv 23 = 0 := by rw [Int.tdiv_eq_ediv_of_nonneg v0]; omega
      have q2 : v / 23 = 0 := by omega
      go_wp2_with fail
      refine (among_c [1, 2, 3, 4, 1, 2, 3, 4, 5] b 8 9 (by decide) g code _ w _ HD.out.cur HB.out (by omega) HBK.out).mono ?_
      rintro e w5 ⟨y, rfl, _, hd⟩
      clear q1 q2 v0 v2
      have k_ := am_ (Dr.trans (by repeat first | exact HD.out | apply Dr.alloc | apply Dr.drewN | apply Dr.drew) hd)
      clear hd HD HB
      have HD := k_
      clear k_
      have HB := am_ HD.out.below
      clear HBK
      go_wp2
      go_ret2
      exact ⟨x, y, rfl, HD.out.more (by omega)⟩
    · have q1 : v.tdiv 23 = 1 := by rw [Int.tdiv_eq_ediv_of_nonneg v0]; omega
      have q2 : v / 23 = 1 := by omega
      go_wp2_with fail
      refine (among_c [1, 2, 3, 4, 1, 2, 3, 4, 5] b 9 9 (by decide) g code _ w _ HD.out.cur HB.out (by omega) HBK.out).mono ?_
      rintro e w5 ⟨y, rfl, _, hd⟩
      clear q1 q2 v0 v2
      have k_ := am_ (Dr.trans (by repeat first | exact HD.out | apply Dr.alloc | apply Dr.drewN | apply Dr.drew) hd)
      clear hd HD HB
      have HD := k_
      clear k_
      have HB := am_ HD.out.below
      clear HBK
      go_wp2
      go_ret2
      exact ⟨x, y, rfl, HD.out.more (by omega)⟩
  · have q1 : v.tdiv 23 = 1 := by rw [Int.tdiv_eq_ediv_of_nonneg v0]; omega
    have q2 : v / 23 = 1 := by omega
    go_wp2_with fail
    refine (among_c [1, 2, 3, 4, 1, 2, 3, 4, 0] b 9 9 (by decide) g code _ w _ HD.out.cur HB.out (by omega) HBK.out).mono ?_
    rintro e w3 ⟨x, rfl, _, hd⟩
    clear q1 q2 v0 v2
    have k_ := am_ (Dr.trans (by repeat first | exact HD.out | apply Dr.alloc | apply Dr.drewN | apply Dr.drew) hd)
    clear hd HD HB
    have HD := k_
    clear k_
    have HB := am_ HD.out.below
    clear HBK
    go_wp2_with fail
    refine (pick_c 24 (by decide) g code _ w _ (HD.out.alloc _).cur (ba_ HB.out _) (by omega)).mono ?_
    rintro e w4 ⟨v, rfl, ⟨v0, v1⟩, hd⟩
    have HBK := am_ (hd.2.2.blk (g' := w3.heap.size) (o := .cells (numsA [1, 2, 3, 4, 1, 2, 3, 4, 5]) 3 (0, 0)) (blk_new w3 _) (Nat.ne_of_gt (Cur.lt HD.out.cur)) (by simp))
    have v2 := v1 (by decide)
    clear v1
    have k_ := am_ (Dr.trans (by repeat first | exact HD.out | apply Dr.alloc | apply Dr.drewN | apply Dr.drew) hd)
    clear hd HD HB
    have HD := k_
    clear k_
    have HB := am_ HD.out.below
    generalize w3.heap.size = b at HBK ⊢
    by_cases c0 : v < 23
    · have q1 : v.tdiv 23 = 0 := by rw [Int.tdiv_eq_ediv_of_nonneg v0]; omega
      have q2 : v / 23 = 0 := by omega
      go_wp2_with fail
      refine (among_c [1, 2, 3, 4, 1, 2, 3, 4, 5] b 8 9 (by decide) g code _ w _ HD.out.cur HB.out (by omega) HBK.out).mono ?_
      rintro e w5 ⟨y, rfl, _, hd⟩
      clear q1 q2 v0 v2
      have k_ := am_ (Dr.trans (by repeat first | exact HD.out | apply Dr.alloc | apply Dr.drewN | apply Dr.drew) hd)
      clear hd HD HB
      have HD := k_
      clear k_
      have HB := am_ HD.out.below
      clear HBK
      go_wp2
      go_ret2
      exact ⟨x, y, rfl, HD.out.more (by omega)⟩
    · have q1 : v.tdiv 23 = 1 := by rw [Int.tdiv_eq_ediv_of_nonneg v0]; omega
      have q2 : v / 23 = 1 := by omega
      go_wp2_with fail
      refine (among_c [1, 2, 3, 4, 1, 2, 3, 4, 5] b 9 9 (by decide) g code _ w _ HD.out.cur HB.out (by omega) HBK.out).mono ?_
      rintro e w5 ⟨y, rfl, _, hd⟩
      clear q1 q2 v0 v2
      have k_ := am_ (Dr.trans (by repeat first | exact HD.out | apply Dr.alloc | apply Dr.drewN | apply Dr.drew) hd)
      clear hd HD HB
      have HD := k_
      clear k_
      have HB := am_ HD.out.below
      clear HBK
      go_wp2
      go_ret2
      exact ⟨x, y, rfl, HD.out.more (by omega)⟩
theorem in_bd2 (ls : List Int) (lo hi : Int) (h : ls.all (fun x => decide (lo ≤ x ∧ x ≤ hi)) = true) : ∀ x ∈ ls, lo ≤ x ∧ x ≤ hi := fun x hx => of_decide_eq_true (List.all_eq_true.mp h x hx)
set_option maxHeartbeats 16000000 in
set_option maxRecDepth 100000 in
theorem rate_c (g : Nat) (code : List Int) (B : Int) (w wa : World) (hI : Cur w wa g code B) (hB : Below w.heap.size w wa) (hb : B ≤ 600000000000) :
    Calls Try.prog 92 #[.pointer (some ⟨g, 0, none⟩)] wa fun e w' => ∃ n d, e = .returned (.agg #[.int .i64 n, .int .i64 d]) ∧ Dr w wa w' g code (B + 6) := by
  have HD := am_ (Dr.refl hI hB (Int.le_refl B))
  have HB := am_ hB
  have HB0 := am_ hB
  have hgl := hI.lt
  clear hI hB
  go_enter Try.func92, Try.ntmps92
  go_wp2_with fail
  obtain ⟨W1, hW1⟩ : ∃ W1, W1 = wa.alloc (.cells #[.int .i64 0, .int .i64 0] 24) := ⟨_, rfl⟩
  have BK0 := am_ (show W1.heap[wa.heap.size]? = some (.cells #[.int .i64 0, .int .i64 0] 24 (0, 0)) from by rw [hW1]; exact blk_new wa _)
  have hsz : W1.heap.size = wa.heap.size + 1 := by rw [hW1]; exact Array.size_push _
  have n_ := am_ (show Dr w wa W1 g code B from by rw [hW1]; exact HD.out.alloc _)
  rw [← hW1]
  clear hW1 HD HB
  have HD := n_
  clear n_
  have HB := am_ HD.out.below
  obtain ⟨g1, hgE1⟩ : ∃ g, g = wa.heap.size := ⟨_, rfl⟩
  have GAg1 := am_ (show wa.heap.size ≤ g1 from by omega)
  have NGg1 := am_ (show g ≠ g1 from by omega)
  rw [← hgE1] at BK0 hsz ⊢
  have BKg1 := am_ BK0.out
  rw [← hsz]
  clear hgE1 hsz hgl BK0
  go_wp2_with fail
  refine (among_c [1, 3, 5, 7, 12, 0, 25, 100] W1.heap.size 8 8 (by decide) g code _ w _ (HD.out.alloc _).cur (ba_ HB.out _) (by omega) (blk_new _ _)).mono ?_
  rintro e w2 ⟨p, rfl, hp, hd⟩
  have pb := in_bd2 [1, 3, 5, 7, 12, 0, 25, 100] (0) 100 (by decide) p hp
  have p0 := pb.1
  have p1 := pb.2
  clear hp pb
  have m_g1 := am_ (hd.2.2.blk (g' := g1) (o := .cells #[.int .i64 0, .int .i64 0] 24 (0, 0)) (by repeat first | exact BKg1.out | refine ka_ ?_ _ | refine kn_ ?_ _ | refine kd_ ?_) NGg1.out.symm (by simp))
  have k_ := am_ (Dr.trans (by repeat first | exact HD.out | apply Dr.alloc | apply Dr.drewN | apply Dr.drew) hd)
  clear hd HD HB BKg1
  have HD := k_
  clear k_
  have HB := am_ HD.out.below
  have BKg1 := m_g1
  clear m_g1
  go_wp2_with fail
  refine (among_c [100, 100, 200, 365, 1000, 12] w2.heap.size 6 6 (by decide) g code _ w _ (HD.out.alloc _).cur (ba_ HB.out _) (by omega) (blk_new _ _)).mono ?_
  rintro e w3 ⟨q, rfl, hq, hd⟩
  have qb := in_bd2 [100, 100, 200, 365, 1000, 12] (1) 1000 (by decide) q hq
  have q0 := qb.1
  have q1 := qb.2
  clear hq qb
  have m_g1 := am_ (hd.2.2.blk (g' := g1) (o := .cells #[.int .i64 0, .int .i64 0] 24 (0, 0)) (by repeat first | exact BKg1.out | refine ka_ ?_ _ | refine kn_ ?_ _ | refine kd_ ?_) NGg1.out.symm (by simp))
  have k_ := am_ (Dr.trans (by repeat first | exact HD.out | apply Dr.alloc | apply Dr.drewN | apply Dr.drew) hd)
  clear hd HD HB BKg1
  have HD := k_
  clear k_
  have HB := am_ HD.out.below
  have BKg1 := m_g1
  clear m_g1
  obtain ⟨kR, hR⟩ := roundsOf (specMake_ev p q (by omega) (by omega) (by omega))
  obtain ⟨FA, hFA⟩ : ∃ F, F = fracA p q := ⟨_, rfl⟩
  rw [← hFA] at hR
  clear hFA
  obtain ⟨n, d, ro⟩ := FA
  have HR := am_ hR
  clear hR
  go_wp2_with fail
  refine (spec_MakeFraction.calls kR p q n d ro _ HR.out).mono ?_
  rintro e w4 ⟨rfl, hb⟩
  have m_ := am_ (blk_below (by repeat first | exact BKg1.out | refine blk_alloc ?_ _ | refine kn_ ?_ _ | refine kd_ ?_) hb)
  have k_ := am_ (Dr.bel (by repeat first | exact HD.out | apply Dr.alloc | apply Dr.drewN | apply Dr.drew) hb)
  clear hb HD HB BKg1
  have HD := k_
  have BKg1 := m_
  clear k_ m_
  have HB := am_ HD.out.below
  go_upto_region 2 with (fail)
  obtain ⟨W2, hW2⟩ : ∃ W1, W1 = w4.alloc (.cells #[.int .i64 n, .int .i64 d] 24) := ⟨_, rfl⟩
  have BK3 := am_ (show W2.heap[w4.heap.size]? = some (.cells #[.int .i64 n, .int .i64 d] 24 (0, 0)) from by rw [hW2]; exact blk_new w4 _)
  have n1 := am_ (show W2.heap[g1]? = some (.cells #[.int .i64 0, .int .i64 0] 24 (0, 0)) from by rw [hW2]; exact blk_alloc BKg1.out _)
  have n2 := am_ (show Dr w wa W2 g code _ from by rw [hW2]; exact HD.out.alloc _)
  have hne : g1 ≠ w4.heap.size := Nat.ne_of_lt (blk_lt BKg1.out)
  have hne3 : g ≠ w4.heap.size := Nat.ne_of_lt (Cur.lt HD.out.cur)
  rw [← hW2]
  clear hW2 HD HB BKg1
  have HD := n2
  have HB := am_ HD.out.below
  have BKg1 := n1
  clear n1 n2
  obtain ⟨g3, hg3⟩ : ∃ g, g = w4.heap.size := ⟨_, rfl⟩
  rw [← hg3] at BK3 hne hne3 ⊢
  have BKg3 := am_ BK3.out
  have NGg3 := am_ hne3
  have HNE := am_ hne
  clear hg3 BK3 hne3 hne
  go_wp2_with fail
  refine (pick_c 40 (by decide) g code _ w _ HD.out.cur HB.out (by omega)).mono ?_
  rintro e w6 ⟨v, rfl, _, hd⟩
  have m_g1 := am_ (hd.2.2.blk (g' := g1) (o := .cells #[.int .i64 0, .int .i64 0] 24 (0, 0)) (by repeat first | exact BKg1.out | refine ka_ ?_ _ | refine kn_ ?_ _ | refine kd_ ?_) NGg1.out.symm (by simp))
  have m_g3 := am_ (hd.2.2.blk (g' := g3) (o := .cells #[.int .i64 n, .int .i64 d] 24 (0, 0)) (by repeat first | exact BKg3.out | refine ka_ ?_ _ | refine kn_ ?_ _ | refine kd_ ?_) NGg3.out.symm (by simp))
  have k_ := am_ (Dr.trans (by repeat first | exact HD.out | apply Dr.alloc | apply Dr.drewN | apply Dr.drew) hd)
  clear hd HD HB BKg1 BKg3
  have HD := k_
  clear k_
  have HB := am_ HD.out.below
  have BKg1 := m_g1
  clear m_g1
  have BKg3 := m_g3
  clear m_g3
  by_cases e0 : v = 0
  · have q0 : (v == 0) = true := by simp [e0]
    have z0 : decide (v = 0) = true := decide_eq_true e0
    clear e0
    go_wp2_with fail
    refine (anyFraction_c g code _ w _ HD.out.cur HB.out (by omega)).mono ?_
    rintro e w7 ⟨x, y, rfl, hd⟩
    have m_g1 := am_ (hd.2.2.blk (g' := g1) (o := .cells #[.int .i64 0, .int .i64 0] 24 (0, 0)) (by repeat first | exact BKg1.out | refine ka_ ?_ _ | refine kn_ ?_ _ | refine kd_ ?_) NGg1.out.symm (by simp))
    have k_ := am_ (Dr.trans (by repeat first | exact HD.out | apply Dr.alloc | apply Dr.drewN | apply Dr.drew) hd)
    clear hd HD HB BKg1
    have HD := k_
    clear k_
    have HB := am_ HD.out.below
    have BKg1 := m_g1
    clear m_g1
    have yg1_0 : w7.cell? ⟨g1, 0, none⟩ = some (.int .i64 0) := (blk_cell BKg1.out 0).trans rfl; have fg1_0 := blk_frozen BKg1.out 0; have yg1_1 : w7.cell? ⟨g1, 1, none⟩ = some (.int .i64 0) := (blk_cell BKg1.out 1).trans rfl; have fg1_1 := blk_frozen BKg1.out 1
    go_wp2
    refine bodyPost_ret (results_single rfl (.cell g1 24 #[.int .i64 x, .int .i64 y] (0, 0) _ rfl (by (with_reducible repeat first | refine kn_ ?_ _ | refine kd_ ?_ | refine ka_ ?_ _); refine blk_put (cs := #[.int .i64 x, .int .i64 0]) ?_ 1 _ rfl; (with_reducible repeat first | refine kn_ ?_ _ | refine kd_ ?_ | refine ka_ ?_ _); refine blk_put (cs := #[.int .i64 0, .int .i64 0]) ?_ 0 _ rfl; (with_reducible repeat first | refine kn_ ?_ _ | refine kd_ ?_ | refine ka_ ?_ _); exact BKg1.out) Try.underlying24 rfl (by kernel_rfl) .nil)) rfl ?_
    exact ⟨_, _, rfl, Dr.more (by repeat first | exact HD.out | apply Dr.set (hq := GAg1.out) (hb := below_size HB0.out) (hg := NGg1.out) | apply Dr.alloc | apply Dr.drewN | apply Dr.drew) (by omega)⟩
  have q0 : (v == 0) = false := by simp [e0]
  have z0 : decide (v = 0) = false := decide_eq_false e0
  clear e0
  by_cases e1 : v = 1
  · have q1 : (v == 1) = true := by simp [e1]
    have z1 : decide (v = 1) = true := decide_eq_true e1
    clear e1
    have yg1_0 : w6.cell? ⟨g1, 0, none⟩ = some (.int .i64 0) := (blk_cell BKg1.out 0).trans rfl; have fg1_0 := blk_frozen BKg1.out 0; have yg1_1 : w6.cell? ⟨g1, 1, none⟩ = some (.int .i64 0) := (blk_cell BKg1.out 1).trans rfl; have fg1_1 := blk_frozen BKg1.out 1
    go_wp2
    refine bodyPost_ret (results_single rfl (.cell g1 24 #[.int .i64 999999937, .int .i64 1000000000] (0, 0) _ rfl (by (with_reducible repeat first | refine kn_ ?_ _ | refine kd_ ?_ | refine ka_ ?_ _); refine blk_put (cs := #[.int .i64 999999937, .int .i64 0]) ?_ 1 _ rfl; (with_reducible repeat first | refine kn_ ?_ _ | refine kd_ ?_ | refine ka_ ?_ _); refine blk_put (cs := #[.int .i64 0, .int .i64 0]) ?_ 0 _ rfl; (with_reducible repeat first | refine kn_ ?_ _ | refine kd_ ?_ | refine ka_ ?_ _); exact BKg1.out) Try.underlying24 rfl (by kernel_rfl) .nil)) rfl ?_
    exact ⟨_, _, rfl, Dr.more (by repeat first | exact HD.out | apply Dr.set (hq := GAg1.out) (hb := below_size HB0.out) (hg := NGg1.out) | apply Dr.alloc | apply Dr.drewN | apply Dr.drew) (by omega)⟩
  have q1 : (v == 1) = false := by simp [e1]
  have z1 : decide (v = 1) = false := decide_eq_false e1
  clear e1
  have yg1_0 : w6.cell? ⟨g1, 0, none⟩ = some (.int .i64 0) := (blk_cell BKg1.out 0).trans rfl; have fg1_0 := blk_frozen BKg1.out 0; have yg1_1 : w6.cell? ⟨g1, 1, none⟩ = some (.int .i64 0) := (blk_cell BKg1.out 1).trans rfl; have fg1_1 := blk_frozen BKg1.out 1
  have yg3_0 : w6.cell? ⟨g3, 0, none⟩ = some (.int .i64 n) := (blk_cell BKg3.out 0).trans rfl; have fg3_0 := blk_frozen BKg3.out 0; have yg3_1 : w6.cell? ⟨g3, 1, none⟩ = some (.int .i64 d) := (blk_cell BKg3.out 1).trans rfl; have fg3_1 := blk_frozen BKg3.out 1
  have hne := HNE.out
  have hne2 := Ne.symm hne
  go_wp2
  refine bodyPost_ret (results_single rfl (.cell g1 24 #[.int .i64 n, .int .i64 d] (0, 0) _ rfl (by (with_reducible repeat first | refine kn_ ?_ _ | refine kd_ ?_ | refine ka_ ?_ _); refine blk_put (cs := #[.int .i64 n, .int .i64 0]) ?_ 1 _ rfl; (with_reducible repeat first | refine kn_ ?_ _ | refine kd_ ?_ | refine ka_ ?_ _); refine blk_put (cs := #[.int .i64 0, .int .i64 0]) ?_ 0 _ rfl; (with_reducible repeat first | refine kn_ ?_ _ | refine kd_ ?_ | refine ka_ ?_ _); exact BKg1.out) Try.underlying24 rfl (by kernel_rfl) .nil)) rfl ?_
  exact ⟨_, _, rfl, Dr.more (by repeat first | exact HD.out | apply Dr.set (hq := GAg1.out) (hb := below_size HB0.out) (hg := NGg1.out) | apply Dr.alloc | apply Dr.drewN | apply Dr.drew) (by omega)⟩
theorem sizeU8 : (Try.prog.info? 5).map (fun i => i.size) = some 1 := by kernel_rfl
theorem cutCode {w : World} {A : Option Addr} {c : Nat} {code : List Int} (h : (Kd.int .u8).C w A code.length code) (hc : code.length ≤ c) (lo : Nat) (hl : lo ≤ code.length) : ∃ (A2 : Option Addr) (code2 : List Int), (∀ W : World, (Instr.slice 56 (.slice A code.length c) (some (.int .i64 (lo : Int))) none none).run Try.prog W = .ok (.slice A2 code2.length (c - lo)) W) ∧ (Kd.int .u8).C w A2 code2.length code2 ∧ ∀ x ∈ code2, x ∈ code := by
  refine ⟨if c = lo then A else A.map (·.add (lo * 1)), code.drop lo, fun W => ?_, ?_, fun x hx => List.mem_of_mem_drop hx⟩
  · obtain ⟨i, hi, hsz⟩ := Option.map_eq_some_iff.mp sizeU8
    have h1 := cut_from (P := Try.prog) 56 5 .i64 Try.underlying56 hi 1 hsz A code.length c (lo : Int) (by omega) (by omega) W
    rw [Int.toNat_natCast] at h1
    rw [List.length_drop]
    exact h1
  · exact Kd.C_drop h hl hc
set_option maxHeartbeats 16000000 in
set_option maxRecDepth 100000 in
theorem drawDF_c (A : Option Addr) (c : Nat) (code : List Int) (w : World) (hr : (Kd.int .u8).C w A code.length code) (hx : ∀ x ∈ code, 0 ≤ x ∧ x ≤ 255) (hc : code.length ≤ c) :
    Calls Try.prog 46 #[.slice A code.length c] w fun e w' => ∃ n d a b k, e = .returned (.tuple #[.agg #[.int .i64 n, .int .i64 d], .int .i64 a, .int .i64 b, .int .i64 k]) ∧ Below w.heap.size w w' := by
  go_enter Try.func46, Try.ntmps46
  go_upto_region 2 with (fail)
  obtain ⟨W1, hW1⟩ : ∃ W1, W1 = w.alloc (.cells #[.int .i64 0, .int .i64 0] 24) := ⟨_, rfl⟩
  have BK0 := am_ (show W1.heap[w.heap.size]? = some (.cells #[.int .i64 0, .int .i64 0] 24 (0, 0)) from by rw [hW1]; exact blk_new w _)
  have hsz : W1.heap.size = w.heap.size + 1 := by rw [hW1]; exact Array.size_push _
  have HB1 := am_ (show Below w.heap.size w W1 from by rw [hW1]; exact ba_ (Below.refl _ _) _)
  have hcur := am_ (Cur.new (w0 := w) (w := W1) (c := c) HB1.out hr hx)
  rw [← hW1]
  clear hW1
  obtain ⟨g1, hgE1⟩ : ∃ g, g = w.heap.size := ⟨_, rfl⟩
  have GEg1 := am_ (show w.heap.size ≤ g1 from by omega)
  rw [← hgE1] at BK0 hsz ⊢
  clear hgE1
  obtain ⟨g, hgE⟩ : ∃ g, g = g1 + 1 := ⟨_, rfl⟩
  have NGg1 := am_ (show g ≠ g1 from by omega)
  rw [hsz, ← hgE] at hcur
  rw [← hgE]
  clear hgE hsz
  have HD := am_ (Dr.refl hcur.out (ba_ HB1.out _) (Int.le_refl 0))
  have HB := am_ HD.out.below
  have BKg1 := am_ (blk_alloc BK0.out (.cells #[.slice A code.length c, .int .i64 0, .int .u64 0] 108))
  clear BK0 HB1 hcur
  obtain ⟨wa, hwa⟩ : ∃ W, W = W1.alloc (.cells #[.slice A code.length c, .int .i64 0, .int .u64 0] 108) := ⟨_, rfl⟩
  rw [← hwa] at HD HB BKg1 ⊢
  clear hwa
  have hlo := minI_bd (code.length : Int) 3
  obtain ⟨lo, hlq⟩ : ∃ lo : Nat, (lo : Int) = minI (code.length : Int) 3 := ⟨(minI (code.length : Int) 3).toNat, by unfold minI; split <;> omega⟩
  have hlb : lo ≤ code.length := by omega
  have HLO := am_ (show spec_l1Least.f (code.length : Int) 3 = some (lo : Int) from by rw [l1Least_eq, hlq])
  obtain ⟨A2, code2, hrun, hC2, hM2⟩ := cutCode hr hc lo hlb
  have HC2 := am_ hC2
  have HX2 := am_ (show ∀ x ∈ code2, 0 ≤ x ∧ x ≤ 255 from fun x hq => hx x (hM2 x hq))
  clear hlo hlq hr hx hC2 hM2
  go_wp2_with fail
  refine (spec_l1Least.calls (code.length : Int) 3 (lo : Int) _ HLO.out).mono ?_
  rintro e w2 ⟨rfl, hb0⟩
  have hb := db_ hb0
  clear hb0
  have m_ := am_ (blk_below (by repeat first | exact BKg1.out | refine blk_alloc ?_ _ | refine kn_ ?_ _ | refine kd_ ?_) hb)
  have k_ := am_ (Dr.bel (by repeat first | exact HD.out | apply Dr.alloc | apply Dr.drewN | apply Dr.drew) hb)
  clear hb HD HB BKg1
  have HD := k_
  have BKg1 := m_
  clear k_ m_
  have HB := am_ HD.out.below
  go_wp2_with fail
  refine (drawDC_c A2 (c - lo) code2 _ (by repeat first | exact (Kd.C_below HC2.out HB.out) | with_reducible refine ca_ ?_ _ | with_reducible refine cn_ ?_ _ | with_reducible refine cd_ ?_) HX2.out).mono ?_
  rintro e w3 ⟨da, db, dk, rfl, hb⟩
  have m_ := am_ (blk_below (by repeat first | exact BKg1.out | refine blk_alloc ?_ _ | refine kn_ ?_ _ | refine kd_ ?_) hb)
  have k_ := am_ (Dr.bel (by repeat first | exact HD.out | apply Dr.alloc | apply Dr.drewN | apply Dr.drew) hb)
  clear hb HD HB BKg1 hrun HC2
  have HD := k_
  have BKg1 := m_
  clear k_ m_
  have HB := am_ HD.out.below
  go_wp2_with fail
  refine (rate_c g code _ w _ HD.out.cur HB.out (by omega)).mono ?_
  rintro e w6 ⟨n, d, rfl, hd⟩
  have m_g1 := am_ (hd.2.2.blk (g' := g1) (o := .cells #[.int .i64 0, .int .i64 0] 24 (0, 0)) (by repeat first | exact BKg1.out | refine ka_ ?_ _ | refine kn_ ?_ _ | refine kd_ ?_) NGg1.out.symm (by simp))
  have k_ := am_ (Dr.trans (by repeat first | exact HD.out | apply Dr.alloc | apply Dr.drewN | apply Dr.drew) hd)
  clear hd HD HB BKg1
  have HD := k_
  clear k_
  have HB := am_ HD.out.below
  have BKg1 := m_g1
  clear m_g1
  have yg1_0 : w6.cell? ⟨g1, 0, none⟩ = some (.int .i64 0) := (blk_cell BKg1.out 0).trans rfl; have fg1_0 := blk_frozen BKg1.out 0; have yg1_1 : w6.cell? ⟨g1, 1, none⟩ = some (.int .i64 0) := (blk_cell BKg1.out 1).trans rfl; have fg1_1 := blk_frozen BKg1.out 1
  go_wp2
  refine bodyPost_ret (results_list (rs := [.cell 2 24, .tmp 3, .tmp 4, .tmp 5]) rfl (by simp) (.cell g1 24 #[.int .i64 n, .int .i64 d] (0, 0) _ rfl (by (with_reducible repeat first | refine kn_ ?_ _ | refine kd_ ?_ | refine ka_ ?_ _); refine blk_put (cs := #[.int .i64 n, .int .i64 0]) ?_ 1 _ rfl; (with_reducible repeat first | refine kn_ ?_ _ | refine kd_ ?_ | refine ka_ ?_ _); refine blk_put (cs := #[.int .i64 0, .int .i64 0]) ?_ 0 _ rfl; (with_reducible repeat first | refine kn_ ?_ _ | refine kd_ ?_ | refine ka_ ?_ _); exact BKg1.out) Try.underlying24 rfl (by kernel_rfl) (.tmp (.tmp (.tmp .nil))))) rfl ?_
  exact ⟨n, d, da, db, dk, rfl, (by repeat first | (with_reducible first | exact HB.out | apply ba_ | apply bn_ | apply bd_ | refine below_set ?_ GEg1.out) | exact HB.out)⟩
theorem infoI : (Try.prog.info? 3).map (fun i => (i.zero, i.size, i.bytes)) = some (some (.int .i64 0), 1, 8) := by kernel_rfl
set_option maxHeartbeats 16000000 in
set_option maxRecDepth 100000 in
theorem amount_c (g : Nat) (code : List Int) (B : Int) (w wa : World) (hI : Cur w wa g code B) (hB : Below w.heap.size w wa) (hb : B ≤ 600000000000) :
    Calls Try.prog 123 #[.pointer (some ⟨g, 0, none⟩)] wa fun e w' => ∃ x, e = .returned (.int .i64 x) ∧ Dr w wa w' g code (B + 3) := by
  have HD := am_ (Dr.refl hI hB (Int.le_refl B))
  have HB := am_ hB
  clear hI hB
  go_enter Try.func123, Try.ntmps123
  go_wp2_with fail
  refine (pick_c 12 (by decide) g code _ w _ HD.out.cur HB.out (by omega)).mono ?_
  rintro e w2 ⟨v, rfl, _, hd⟩
  have k_ := am_ (Dr.trans (by repeat first | exact HD.out | apply Dr.alloc | apply Dr.drewN | apply Dr.drew) hd)
  clear hd HD HB
  have HD := k_
  clear k_
  have HB := am_ HD.out.below
  by_cases e0 : v = 0
  · have q0 : (v == 0) = true := by simp [e0]
    have z0 : decide (v = 0) = true := decide_eq_true e0
    clear e0
    go_wp2_with fail
    refine (among_c [1000000000, -1000000000, 1000000001, -1000000001] w2.heap.size 4 4 (by decide) g code _ w _ (HD.out.alloc _).cur (ba_ HB.out _) (by omega) (blk_new _ _)).mono ?_
    rintro e w3 ⟨x, rfl, _, hd⟩
    have k_ := am_ (Dr.trans (Dr.alloc HD.out _) hd)
    clear hd HD HB
    have HD := k_
    clear k_
    have HB := am_ HD.out.below
    go_wp2
    go_ret
    exact ⟨_, rfl, HD.out.more (by omega)⟩
  have q0 : (v == 0) = false := by simp [e0]
  have z0 : decide (v = 0) = false := decide_eq_false e0
  clear e0
  by_cases e1 : v = 1
  · have q1 : (v == 1) = true := by simp [e1]
    have z1 : decide (v = 1) = true := decide_eq_true e1
    clear e1
    go_wp2_with fail
    refine (pickB_c 2000 (by decide) g code _ w _ HD.out.cur HB.out (by omega)).mono ?_
    rintro e w3 ⟨x, rfl, ⟨x0, x1⟩, hd⟩
    have k_ := am_ (Dr.trans (by repeat first | exact HD.out | apply Dr.alloc | apply Dr.drewN | apply Dr.drew) hd)
    clear hd HD HB
    have HD := k_
    clear k_
    have HB := am_ HD.out.below
    go_wp2
    go_ret
    exact ⟨_, rfl, HD.out.more (by omega)⟩
  have q1 : (v == 1) = false := by simp [e1]
  have z1 : decide (v = 1) = false := decide_eq_false e1
  clear e1
  by_cases e2 : v = 2
  · have q2 : (v == 2) = true := by simp [e2]
    have z2 : decide (v = 2) = true := decide_eq_true e2
    clear e2
    go_wp2_with fail
    refine (pickB_c 60000 (by decide) g code _ w _ HD.out.cur HB.out (by omega)).mono ?_
    rintro e w3 ⟨x, rfl, ⟨x0, x1⟩, hd⟩
    have k_ := am_ (Dr.trans (by repeat first | exact HD.out | apply Dr.alloc | apply Dr.drewN | apply Dr.drew) hd)
    clear hd HD HB
    have HD := k_
    clear k_
    have HB := am_ HD.out.below
    go_wp2
    go_ret
    exact ⟨_, rfl, HD.out.more (by omega)⟩
  have q2 : (v == 2) = false := by simp [e2]
  have z2 : decide (v = 2) = false := decide_eq_false e2
  clear e2
  go_wp2_with fail
  refine (pickB_c 2000 (by decide) g code _ w _ HD.out.cur HB.out (by omega)).mono ?_
  rintro e w3 ⟨x, rfl, ⟨x0, x1⟩, hd⟩
  have k_ := am_ (Dr.trans (by repeat first | exact HD.out | apply Dr.alloc | apply Dr.drewN | apply Dr.drew) hd)
  clear hd HD HB
  have HD := k_
  clear k_
  have HB := am_ HD.out.below
  go_wp2
  go_ret
  exact ⟨_, rfl, HD.out.more (by omega)⟩
def lenOfV : Value → Nat
  | .slice _ n _ => n
  | _ => 0
set_option maxHeartbeats 16000000 in
set_option maxRecDepth 100000 in
theorem amounts_c (g : Nat) (code : List Int) (B : Int) (w wa : World) (hI : Cur w wa g code B) (hB : Below w.heap.size w wa) (hb : B ≤ 500000000000) :
    Calls Try.prog 98 #[.pointer (some ⟨g, 0, none⟩)] wa fun e w' => ∃ v xs, e = .returned v ∧ (Kd.int .i64).R 3 w' w.heap.size (fun _ => True) v xs ∧ xs.length ≤ 100 ∧ Dr w wa w' g code (B + 1000) := by
  have HD := am_ (Dr.refl hI hB (Int.le_refl B))
  have HB := am_ hB
  clear hI hB
  go_enter Try.func98, Try.ntmps98
  go_wp2_with (((with_reducible refine gate_dst (N := 5) rfl ?_); refine Kd.R_lit (Kd.int .i64) w.heap.size 3 (w0 := w) ?hg (N := 5) ?hd (xs := []) (inner := []) (ok := fun _ => True) (okp := fun _ => True) ?hr ?hp (fun _ hk => hk) trivial (by repeat first | (with_reducible first | exact HB.out | apply ba_ | apply bn_ | apply bd_) | exact HB.out) (below_size (by repeat first | (with_reducible first | exact HB.out | apply ba_ | apply bn_ | apply bd_) | exact HB.out)) (by simp) ?_; (case hd => rfl); (case hg => rfl); (case hr => first | (go_simp; done) | (go_simp; rfl)); (case hp => exact (Reps.none _ _)); intro v1 w1 ho hb hgr hnw); have HO := am_ ho; have HL := am_ (Late.lit HD.out.size hnw); have n_ := am_ (HD.out.lit hgr hb); clear HB HD; have HD := n_; have HB := am_ hb; clear n_ ho hb hgr hnw)
  refine (pick_c 6 (by decide) g code _ w _ HD.out.cur HB.out (by omega)).mono ?_
  rintro e w2 ⟨n, rfl, ⟨n0, n1⟩, hd⟩
  have n_ := am_ (R_dr flat_int (by (with_reducible repeat first | apply ra_ | apply rn_ | apply rd_); exact HO.out) (Dr.cur (by repeat first | exact HD.out | apply Dr.alloc | apply Dr.drewN | apply Dr.drew)) (by decide) hd)
  clear HO
  have HO := n_
  clear n_
  have k_ := am_ (Dr.trans (by repeat first | exact HD.out | apply Dr.alloc | apply Dr.drewN | apply Dr.drew) hd)
  clear hd HD HB
  have HD := k_
  clear k_
  have HB := am_ HD.out.below
  have n6 := n1 (by decide)
  clear n1
  go_wp2_with fail
  go_loopw [3, 4] (fun v3 v4 wr => ∃ (n : Int) (out : List Int), v4 = .int .i64 n ∧ Aside0 (0 ≤ n ∧ n ≤ 6) ∧ Aside0 ((out.length : Int) + n ≤ 6) ∧ Aside0 ((Kd.int .i64).R 3 wr w.heap.size (fun _ => True) v3 out) ∧ Aside0 (Late wa v3) ∧ Aside0 (Dr w wa wr g code (B + 50 - 4 * n))) (fun _ v4 _ => (intOf v4).toNat)
  case atStart => exact ⟨n, [], rfl, ⟨by omega⟩, ⟨by simp; omega⟩, ⟨(by (with_reducible repeat first | apply ra_ | apply rn_ | apply rd_); exact HO.out)⟩, HL, ⟨HD.out.more (by omega)⟩⟩
  case round =>
    clear HO HL HD HB n0 n6
    obtain ⟨n, out, rfl, HN, HLN, HO, HL, HD⟩ := hrel
    have HB := am_ HD.out.below
    have n0 := HN.out.1
    have n6 := HN.out.2
    have hol := HLN.out
    by_cases hn : 0 < n
    · have c1 : decide (0 < n) = true := decide_eq_true hn
      go_wp2_with fail
      refine (amount_c g code _ w _ HD.out.cur HB.out (by omega)).mono ?_
      rintro e w3 ⟨x, rfl, hd⟩
      have n_ := am_ (R_dr flat_int (by (with_reducible repeat first | apply ra_ | apply rn_ | apply rd_); exact HO.out) (Dr.cur (by repeat first | exact HD.out | apply Dr.alloc | apply Dr.drewN | apply Dr.drew)) (by decide) hd)
      clear HO
      have HO := n_
      clear n_
      have k_ := am_ (Dr.trans (by repeat first | exact HD.out | apply Dr.alloc | apply Dr.drewN | apply Dr.drew) hd)
      clear hd HD HB
      have HD := k_
      clear k_
      have HB := am_ HD.out.below
      go_wp2_with (((with_reducible refine gate_builtin (b := .append) (xs := #[.tmp 12, .tmp 15]) rfl ?_); at_builtin; refine Kd.R_append (Kd.int .i64) (w0 := w) w.heap.size rfl (.tmp 12) (.tmp 15) 35 3 (.int .i64 0) 8 rfl Try.underlying35 infoI rfl (by decide) (by omega) u3 out x [.int .i64 x] (fun _ => True) (fun _ => False) rfl rfl ?aP (fun _ hk => hk.elim) ?aF ?aO ?aB ?aS ?aL ?_; (case aP => exact rfl); (case aB => exact (by repeat first | (with_reducible first | exact HB.out | apply ba_ | apply bn_ | apply bd_) | exact HB.out)); (case aF => exact (fun _ _ => trivial)); (case aO => exact (by (with_reducible repeat first | apply ra_ | apply rn_ | apply rd_); exact HO.out)); (case aS => exact (below_size (by repeat first | (with_reducible first | exact HB.out | apply ba_ | apply bn_ | apply bd_) | exact HB.out))); (case aL => omega); intro v1 w1 ho hb hg hat); have n_ := am_ ho; have l_ := am_ (HL.out.app HD.out.size hat); have k_ := am_ (HD.out.grown hg HL.out hb (own_cur HO.out HD.out.cur (by decide))); clear HO HL HD HB; have HO := n_; have HL := l_; have HD := k_; have HB := am_ hb; clear n_ l_ k_ ho hb hg hat)
      go_roundw
      case rel => exact ⟨n - 1, out ++ [x], by go_num, ⟨by omega⟩, ⟨by rw [List.length_append, List.length_singleton]; push_cast; omega⟩, ⟨(by (with_reducible repeat first | apply ra_ | apply rn_ | apply rd_); exact HO.out)⟩, HL, ⟨HD.out.more (by omega)⟩⟩
      case measure => simp [intOf]; omega
    · have c1 : decide (0 < n) = false := decide_eq_false hn
      have HOL := am_ (show out.length ≤ 6 from by omega)
      go_wp2_with fail
      refine (one_c 16 (by decide) g code _ w _ HD.out.cur HB.out (by omega)).mono ?_
      rintro e w3 ⟨bb, rfl, hd⟩
      have n_ := am_ (R_dr flat_int (by (with_reducible repeat first | apply ra_ | apply rn_ | apply rd_); exact HO.out) (Dr.cur (by repeat first | exact HD.out | apply Dr.alloc | apply Dr.drewN | apply Dr.drew)) (by decide) hd)
      clear HO
      have HO := n_
      clear n_
      have k_ := am_ (Dr.trans (by repeat first | exact HD.out | apply Dr.alloc | apply Dr.drewN | apply Dr.drew) hd)
      clear hd HD HB
      have HD := k_
      clear k_
      have HB := am_ HD.out.below
      clear hol hn HLN HN
      cases bb with
      | false =>
        have hol2 := HOL.out
        go_wp2
        go_ret
        exact ⟨_, out, rfl, (by (with_reducible repeat first | apply ra_ | apply rn_ | apply rd_); exact HO.out), by omega, HD.out.more (by omega)⟩
      | true =>
        go_wp2_with fail
        go_loopw [3] (fun v3 wr => ∃ (out : List Int), Aside0 (out.length ≤ 21) ∧ Aside0 ((Kd.int .i64).R 3 wr w.heap.size (fun _ => True) v3 out) ∧ Aside0 (Late wa v3) ∧ Aside0 (Dr w wa wr g code (B + 100 + 3 * out.length))) (fun v3 _ => 22 - lenOfV v3)
        case atStart => exact ⟨out, ⟨by have := HOL.out; omega⟩, ⟨(by (with_reducible repeat first | apply ra_ | apply rn_ | apply rd_); exact HO.out)⟩, HL, ⟨HD.out.more (by have := HOL.out; omega)⟩⟩
        case round =>
          clear HO HL HD HB HOL
          obtain ⟨out, HLN, HO, HL, HD⟩ := hrel
          have HB := am_ HD.out.below
          obtain ⟨A3, c3, e3⟩ := Kd.R_slice HO.out
          subst e3
          have hol := HLN.out
          go_wp2_with fail
          refine (pick_c 2 (by decide) g code _ w _ HD.out.cur HB.out (by omega)).mono ?_
          rintro e w4 ⟨p, rfl, ⟨p0, p1⟩, hd⟩
          have n_ := am_ (R_dr flat_int (by (with_reducible repeat first | apply ra_ | apply rn_ | apply rd_); exact HO.out) (Dr.cur (by repeat first | exact HD.out | apply Dr.alloc | apply Dr.drewN | apply Dr.drew)) (by decide) hd)
          clear HO
          have HO := n_
          clear n_
          have k_ := am_ (Dr.trans (by repeat first | exact HD.out | apply Dr.alloc | apply Dr.drewN | apply Dr.drew) hd)
          clear hd HD HB
          have HD := k_
          clear k_
          have HB := am_ HD.out.below
          have p2 := p1 (by decide)
          clear p1
          by_cases hp : (out.length : Int) < 20 + p
          · have d1 : decide ((out.length : Int) < 20 + p) = true := decide_eq_true hp
            go_wp2_with fail
            refine (pick_c 9 (by decide) g code _ w _ HD.out.cur HB.out (by omega)).mono ?_
            rintro e w5 ⟨x, rfl, _, hd⟩
            have n_ := am_ (R_dr flat_int (by (with_reducible repeat first | apply ra_ | apply rn_ | apply rd_); exact HO.out) (Dr.cur (by repeat first | exact HD.out | apply Dr.alloc | apply Dr.drewN | apply Dr.drew)) (by decide) hd)
            clear HO
            have HO := n_
            clear n_
            have k_ := am_ (Dr.trans (by repeat first | exact HD.out | apply Dr.alloc | apply Dr.drewN | apply Dr.drew) hd)
            clear hd HD HB
            have HD := k_
            clear k_
            have HB := am_ HD.out.below
            go_wp2_with (((with_reducible refine gate_builtin (b := .append) (xs := #[.tmp 25, .tmp 28]) rfl ?_); at_builtin; refine Kd.R_append (Kd.int .i64) (w0 := w) w.heap.size rfl (.tmp 25) (.tmp 28) 35 3 (.int .i64 0) 8 rfl Try.underlying35 infoI rfl (by decide) (by omega) (.slice A3 out.length c3) out x [.int .i64 x] (fun _ => True) (fun _ => False) rfl rfl ?aP (fun _ hk => hk.elim) ?aF ?aO ?aB ?aS ?aL ?_; (case aP => exact rfl); (case aB => exact (by repeat first | (with_reducible first | exact HB.out | apply ba_ | apply bn_ | apply bd_) | exact HB.out)); (case aF => exact (fun _ _ => trivial)); (case aO => exact (by (with_reducible repeat first | apply ra_ | apply rn_ | apply rd_); exact HO.out)); (case aS => exact (below_size (by repeat first | (with_reducible first | exact HB.out | apply ba_ | apply bn_ | apply bd_) | exact HB.out))); (case aL => omega); intro v1 w1 ho hb hg hat); have n_ := am_ ho; have l_ := am_ (HL.out.app HD.out.size hat); have k_ := am_ (HD.out.grown hg HL.out hb (own_cur HO.out HD.out.cur (by decide))); clear HO HL HD HB; have HO := n_; have HL := l_; have HD := k_; have HB := am_ hb; clear n_ l_ k_ ho hb hg hat)
            obtain ⟨A4, c4, e4⟩ := Kd.R_slice HO.out
            go_roundw
            case rel => exact ⟨out ++ [x], ⟨by simp; omega⟩, ⟨(by (with_reducible repeat first | apply ra_ | apply rn_ | apply rd_); exact HO.out)⟩, HL, ⟨HD.out.more (by simp; omega)⟩⟩
            case measure => rw [e4]; simp [lenOfV]; omega
          · have d1 : decide ((out.length : Int) < 20 + p) = false := decide_eq_false hp
            go_wp2
            go_ret
            exact ⟨_, out, rfl, (by (with_reducible repeat first | apply ra_ | apply rn_ | apply rd_); exact HO.out), by omega, HD.out.more (by omega)⟩
theorem R_offJ {base : Nat} {w : World} {v : Value} {xs : List Int} (h : (Kd.int .i64).R 3 w base (fun _ => True) v xs) {g : Nat} (hd : some g ≠ v.ownBlock) (j : Nat) (u : Value) : (Kd.int .i64).R 3 (w.setCell ⟨g, j, none⟩ u) base (fun _ => True) v xs :=
  Kd.R_mono (Kd.R_far (p := ⟨g, j, none⟩) (R_flat flat_int h (fun k hk => (fun e : k = g => hd (by rw [← e]; exact hk.symm) : k ≠ g))) (fun k hk => hk) u) (fun _ _ => trivial)
set_option maxHeartbeats 16000000 in
set_option maxRecDepth 100000 in
theorem drawPV_c (A : Option Addr) (c : Nat) (code : List Int) (w : World) (hr : (Kd.int .u8).C w A code.length code) (hx : ∀ x ∈ code, 0 ≤ x ∧ x ≤ 255) :
    Calls Try.prog 48 #[.slice A code.length c] w fun e w' => ∃ v u xs ys at_ n d b m, e = .returned (.tuple #[v, u, .int .i64 at_, .agg #[.int .i64 n, .int .i64 d], .int .i64 b, .int .i64 m]) ∧ (Kd.int .i64).R 3 w' w.heap.size (fun _ => True) v xs ∧ xs.length ≤ 100 ∧ (Kd.int .i64).R 3 w' w.heap.size (fun _ => True) u ys ∧ ys.length ≤ 200 ∧ Below w.heap.size w w' := by
  go_enter Try.func48, Try.ntmps48
  go_upto_region 2 with (fail)
  obtain ⟨W1, hW1⟩ : ∃ W1, W1 = w.alloc (.cells #[.int .i64 0, .int .i64 0] 24) := ⟨_, rfl⟩
  have BK0 := am_ (show W1.heap[w.heap.size]? = some (.cells #[.int .i64 0, .int .i64 0] 24 (0, 0)) from by rw [hW1]; exact blk_new w _)
  have hsz : W1.heap.size = w.heap.size + 1 := by rw [hW1]; exact Array.size_push _
  have HB1 := am_ (show Below w.heap.size w W1 from by rw [hW1]; exact ba_ (Below.refl _ _) _)
  have hcur := am_ (Cur.new (w0 := w) (w := W1) (c := c) HB1.out hr hx)
  rw [← hW1]
  clear hW1
  obtain ⟨g1, hgE1⟩ : ∃ g, g = w.heap.size := ⟨_, rfl⟩
  have GEg1 := am_ (show w.heap.size ≤ g1 from by omega)
  rw [← hgE1] at BK0 hsz ⊢
  clear hgE1
  obtain ⟨g, hgE⟩ : ∃ g, g = g1 + 1 := ⟨_, rfl⟩
  have NGg1 := am_ (show g ≠ g1 from by omega)
  rw [hsz, ← hgE] at hcur
  rw [← hgE]
  clear hgE hsz
  have HD := am_ (Dr.refl hcur.out (ba_ HB1.out _) (Int.le_refl 0))
  have HB := am_ HD.out.below
  have BKg1 := am_ (blk_alloc BK0.out (.cells #[.slice A code.length c, .int .i64 0, .int .u64 0] 108))
  clear BK0 HB1 hcur
  obtain ⟨wa, hwa⟩ : ∃ W, W = W1.alloc (.cells #[.slice A code.length c, .int .i64 0, .int .u64 0] 108) := ⟨_, rfl⟩
  rw [← hwa] at HD HB BKg1 ⊢
  clear hwa
  clear hr hx
  go_wp2_with fail
  refine (near4_c g code _ w _ HD.out.cur HB.out (by omega)).mono ?_
  rintro e w2 ⟨t0, rfl, ⟨t1, t2⟩, hd⟩
  have m_g1 := am_ (hd.2.2.blk (g' := g1) (o := .cells #[.int .i64 0, .int .i64 0] 24 (0, 0)) (by repeat first | exact BKg1.out | refine ka_ ?_ _ | refine kn_ ?_ _ | refine kd_ ?_) NGg1.out.symm (by simp))
  have k_ := am_ (Dr.trans (by repeat first | exact HD.out | apply Dr.alloc | apply Dr.drewN | apply Dr.drew) hd)
  clear hd HD HB BKg1
  have HD := k_
  clear k_
  have HB := am_ HD.out.below
  have BKg1 := m_g1
  clear m_g1
  go_wp2_with fail
  refine (amounts_c g code _ w _ HD.out.cur HB.out (by omega)).mono ?_
  rintro e w3 ⟨va, xs, rfl, ha, hl, hd⟩
  have HA := am_ (Kd.R_lower ha (show w.heap.size ≤ w.heap.size from Nat.le_refl _))
  have HXL := am_ hl
  clear ha hl
  have m_g1 := am_ (hd.2.2.blk (g' := g1) (o := .cells #[.int .i64 0, .int .i64 0] 24 (0, 0)) (by repeat first | exact BKg1.out | refine ka_ ?_ _ | refine kn_ ?_ _ | refine kd_ ?_) NGg1.out.symm (by simp))
  have k_ := am_ (Dr.trans (by repeat first | exact HD.out | apply Dr.alloc | apply Dr.drewN | apply Dr.drew) hd)
  clear hd HD HB BKg1
  have HD := k_
  clear k_
  have HB := am_ HD.out.below
  have BKg1 := m_g1
  clear m_g1
  have k_ := am_ (Dr.refl HD.out.cur HB.out (show (0 : Int) + 10 + 1000 ≤ 1010 from by omega))
  have HB3 := am_ HB.out
  have EA := am_ (show ∀ k, va.ownBlock = some k → k < w3.heap.size from fun k hk => ((Kd.R_bound HA.out).1 k hk).2.2.1)
  clear HD
  have HD := k_
  clear k_
  obtain ⟨Aa, ca, ea⟩ := Kd.R_slice HA.out
  subst ea
  have hxl := HXL.out
  go_wp2_with (((with_reducible refine gate_dst (N := 22) rfl ?_); refine Kd.R_lit (Kd.int .i64) w.heap.size 3 (w0 := w) ?hg (N := 22) ?hd (xs := []) (inner := []) (ok := fun _ => True) (okp := fun _ => True) ?hr ?hp (fun _ hk => hk) trivial (by repeat first | (with_reducible first | exact HB.out | apply ba_ | apply bn_ | apply bd_) | exact HB.out) (below_size (by repeat first | (with_reducible first | exact HB.out | apply ba_ | apply bn_ | apply bd_) | exact HB.out)) (by simp) ?_; (case hd => rfl); (case hg => rfl); (case hr => first | (go_simp; done) | (go_simp; rfl)); (case hp => exact (Reps.none _ _)); intro v1 w1 ho hb hgr hnw); have HO := am_ ho; have HL := am_ (Late.lit HD.out.size hnw); have m_ := am_ (blk_grown BKg1.out hgr (by simp)); have n_ := am_ (HD.out.lit hgr hb); have a_ := am_ (Kd.R_grown (by (with_reducible repeat first | apply ra_ | apply rn_ | apply rd_); exact HA.out) hgr (fun _ _ e => by cases e)); clear HB HD HA BKg1; have HD := n_; have HA := a_; have BKg1 := m_; have HB := am_ hb; clear n_ a_ m_ ho hb hgr hnw)
  go_loopw [11, 12] (fun v11 v12 wr => ∃ (i : Nat) (out : List Int), v12 = .int .i64 i ∧ Aside0 (i ≤ xs.length) ∧ Aside0 (out.length ≤ i) ∧ Aside0 ((Kd.int .i64).R 3 wr w.heap.size (fun _ => True) v11 out) ∧ Aside0 ((Kd.int .i64).R 3 wr w.heap.size (fun _ => True) (.slice Aa xs.length ca) xs) ∧ Aside0 (Late w3 v11) ∧ Aside0 (wr.heap[g1]? = some (.cells #[.int .i64 0, .int .i64 0] 24 (0, 0))) ∧ Aside0 (Dr w w3 wr g code (2000 + 2 * i))) (fun _ v12 _ => xs.length - (intOf v12).toNat)
  case atStart => exact ⟨0, [], rfl, ⟨Nat.zero_le _⟩, ⟨by simp⟩, ⟨(by (with_reducible repeat first | apply ra_ | apply rn_ | apply rd_); exact HO.out)⟩, ⟨(by (with_reducible repeat first | apply ra_ | apply rn_ | apply rd_); exact HA.out)⟩, HL, ⟨(by repeat first | exact BKg1.out | refine ka_ ?_ _ | refine kn_ ?_ _ | refine kd_ ?_)⟩, ⟨HD.out.more (by omega)⟩⟩
  case round =>
    clear HO HA HL HD HB BKg1
    obtain ⟨i, out, rfl, HI, HOL, HO, HA, HL, BKg1, HD⟩ := hrel
    have HB := am_ HD.out.below
    have hol := HOL.out
    have hi1 := HI.out
    by_cases hil : i < xs.length
    · have ci : decide (i < xs.length) = true := decide_eq_true hil
      go_wp2_with fail
      refine (among_c [0, 30, 90, 365, 700, 1] wr.heap.size 6 6 (by decide) g code _ w _ (HD.out.alloc _).cur (ba_ HB.out _) (by omega) (blk_new _ _)).mono ?_
      rintro e w4 ⟨x, rfl, hx, hd⟩
      have hxb := in_bd [0, 30, 90, 365, 700, 1] 0 700 (by decide) x hx
      have x0 := hxb.1
      have x1 := hxb.2
      clear hx hxb
      have n_ := am_ (R_dr flat_int (by (with_reducible repeat first | apply ra_ | apply rn_ | apply rd_); exact HO.out) (Dr.cur (by repeat first | exact HD.out | apply Dr.alloc | apply Dr.drewN | apply Dr.drew)) (by decide) hd)
      clear HO
      have HO := n_
      clear n_
      have na_ := am_ (R_dr flat_int (by (with_reducible repeat first | apply ra_ | apply rn_ | apply rd_); exact HA.out) (Dr.cur (by repeat first | exact HD.out | apply Dr.alloc | apply Dr.drewN | apply Dr.drew)) (by decide) hd)
      clear HA
      have HA := na_
      clear na_
      have m_g1 := am_ (hd.2.2.blk (g' := g1) (o := .cells #[.int .i64 0, .int .i64 0] 24 (0, 0)) (by repeat first | exact BKg1.out | refine ka_ ?_ _ | refine kn_ ?_ _ | refine kd_ ?_) NGg1.out.symm (by simp))
      have k_ := am_ (Dr.trans (by repeat first | exact HD.out | apply Dr.alloc | apply Dr.drewN | apply Dr.drew) hd)
      clear hd HD HB BKg1
      have HD := k_
      clear k_
      have HB := am_ HD.out.below
      have BKg1 := m_g1
      clear m_g1
      go_wp2_with (((with_reducible refine gate_builtin (b := .append) (xs := #[.tmp 29, .tmp 35]) rfl ?_); at_builtin; refine Kd.R_append (Kd.int .i64) (w0 := w) w.heap.size rfl (.tmp 29) (.tmp 35) 35 3 (.int .i64 0) 8 rfl Try.underlying35 infoI rfl (by decide) (by omega) u11 out (t0 + x) [.int .i64 (t0 + x)] (fun _ => True) (fun _ => False) rfl rfl ?aP (fun _ hk => hk.elim) ?aF ?aO ?aB ?aS ?aL ?_; (case aP => exact rfl); (case aB => exact (by repeat first | (with_reducible first | exact HB.out | apply ba_ | apply bn_ | apply bd_) | exact HB.out)); (case aF => exact (fun _ _ => trivial)); (case aO => exact (by (with_reducible repeat first | apply ra_ | apply rn_ | apply rd_); exact HO.out)); (case aS => exact (below_size (by repeat first | (with_reducible first | exact HB.out | apply ba_ | apply bn_ | apply bd_) | exact HB.out))); (case aL => omega); intro v1 w1 ho hb hg hat); have n_ := am_ ho; have l_ := am_ (HL.out.app HD.out.size hat); have ga_ := am_ (Kd.R_mono (Kd.R_grown (show (Kd.int .i64).R 3 _ _ (fun k => k < w3.heap.size) _ _ from R_flat flat_int (by (with_reducible repeat first | apply ra_ | apply rn_ | apply rd_); exact HA.out) (fun k hk => EA.out k hk)) hg (fun k hk e => by have := HL.out k e.symm; omega)) (fun _ _ => trivial)); have m_ := am_ (blk_grown BKg1.out hg (own_ne HO.out BKg1.out (by decide))); have k_ := am_ (HD.out.grown hg HL.out hb (own_cur HO.out HD.out.cur (by decide))); clear HO HL HA HD HB BKg1; have HO := n_; have HL := l_; have HA := ga_; have BKg1 := m_; have HD := k_; have HB := am_ hb; clear n_ l_ ga_ m_ k_ ho hb hg hat)
      go_roundw
      case rel => exact ⟨i + 1, out ++ [t0 + x], by go_num, ⟨hil⟩, ⟨by rw [List.length_append, List.length_singleton]; omega⟩, ⟨(by (with_reducible repeat first | apply ra_ | apply rn_ | apply rd_); exact HO.out)⟩, ⟨(by (with_reducible repeat first | apply ra_ | apply rn_ | apply rd_); exact HA.out)⟩, HL, ⟨(by repeat first | exact BKg1.out | refine ka_ ?_ _ | refine kn_ ?_ _ | refine kd_ ?_)⟩, ⟨HD.out.more (by omega)⟩⟩
      case measure => simp [intOf]; omega
    · have ci : decide (i < xs.length) = false := decide_eq_false hil
      have hi2 : (i : Int) ≤ 100 := by omega
      go_wp2_with fail
      refine (one_c 20 (by decide) g code _ w _ HD.out.cur HB.out (by omega)).mono ?_
      rintro e w4 ⟨bb, rfl, hd⟩
      have n_ := am_ (R_dr flat_int (by (with_reducible repeat first | apply ra_ | apply rn_ | apply rd_); exact HO.out) (Dr.cur (by repeat first | exact HD.out | apply Dr.alloc | apply Dr.drewN | apply Dr.drew)) (by decide) hd)
      clear HO
      have HO := n_
      clear n_
      have na_ := am_ (R_dr flat_int (by (with_reducible repeat first | apply ra_ | apply rn_ | apply rd_); exact HA.out) (Dr.cur (by repeat first | exact HD.out | apply Dr.alloc | apply Dr.drewN | apply Dr.drew)) (by decide) hd)
      clear HA
      have HA := na_
      clear na_
      have m_g1 := am_ (hd.2.2.blk (g' := g1) (o := .cells #[.int .i64 0, .int .i64 0] 24 (0, 0)) (by repeat first | exact BKg1.out | refine ka_ ?_ _ | refine kn_ ?_ _ | refine kd_ ?_) NGg1.out.symm (by simp))
      have k_ := am_ (Dr.trans (by repeat first | exact HD.out | apply Dr.alloc | apply Dr.drewN | apply Dr.drew) hd)
      clear hd HD HB BKg1
      have HD := k_
      clear k_
      have HB := am_ HD.out.below
      have BKg1 := m_g1
      clear m_g1
      clear hil ci
      cases bb with
      | false =>
        go_wp2_with fail
        refine (one_c 20 (by decide) g code _ w _ HD.out.cur HB.out (by omega)).mono ?_
        rintro e w5 ⟨b2, rfl, hd⟩
        have n_ := am_ (R_dr flat_int (by (with_reducible repeat first | apply ra_ | apply rn_ | apply rd_); exact HO.out) (Dr.cur (by repeat first | exact HD.out | apply Dr.alloc | apply Dr.drewN | apply Dr.drew)) (by decide) hd)
        clear HO
        have HO := n_
        clear n_
        have na_ := am_ (R_dr flat_int (by (with_reducible repeat first | apply ra_ | apply rn_ | apply rd_); exact HA.out) (Dr.cur (by repeat first | exact HD.out | apply Dr.alloc | apply Dr.drewN | apply Dr.drew)) (by decide) hd)
        clear HA
        have HA := na_
        clear na_
        have m_g1 := am_ (hd.2.2.blk (g' := g1) (o := .cells #[.int .i64 0, .int .i64 0] 24 (0, 0)) (by repeat first | exact BKg1.out | refine ka_ ?_ _ | refine kn_ ?_ _ | refine kd_ ?_) NGg1.out.symm (by simp))
        have k_ := am_ (Dr.trans (by repeat first | exact HD.out | apply Dr.alloc | apply Dr.drewN | apply Dr.drew) hd)
        clear hd HD HB BKg1
        have HD := k_
        clear k_
        have HB := am_ HD.out.below
        have BKg1 := m_g1
        clear m_g1
        obtain ⟨ys, hys⟩ : ∃ ys, ys = out := ⟨_, rfl⟩
        have HYL := am_ (show ys.length ≤ 200 from by rw [hys]; omega)
        rw [← hys] at HO
        clear hys
        obtain ⟨Ad, cd, ed⟩ := Kd.R_slice HO.out
        subst ed
        cases b2 with
        | false =>
          go_wp2_with fail
          refine (terms15_c g code _ w _ HD.out.cur HB.out (by omega)).mono ?_
          rintro e w7 ⟨kb, km, rfl, hd⟩
          have n_ := am_ (R_dr flat_int (by (with_reducible repeat first | apply ra_ | apply rn_ | apply rd_); exact HO.out) (Dr.cur (by repeat first | exact HD.out | apply Dr.alloc | apply Dr.drewN | apply Dr.drew)) (by decide) hd)
          clear HO
          have HO := n_
          clear n_
          have na_ := am_ (R_dr flat_int (by (with_reducible repeat first | apply ra_ | apply rn_ | apply rd_); exact HA.out) (Dr.cur (by repeat first | exact HD.out | apply Dr.alloc | apply Dr.drewN | apply Dr.drew)) (by decide) hd)
          clear HA
          have HA := na_
          clear na_
          have m_g1 := am_ (hd.2.2.blk (g' := g1) (o := .cells #[.int .i64 0, .int .i64 0] 24 (0, 0)) (by repeat first | exact BKg1.out | refine ka_ ?_ _ | refine kn_ ?_ _ | refine kd_ ?_) NGg1.out.symm (by simp))
          have k_ := am_ (Dr.trans (by repeat first | exact HD.out | apply Dr.alloc | apply Dr.drewN | apply Dr.drew) hd)
          clear hd HD HB BKg1
          have HD := k_
          clear k_
          have HB := am_ HD.out.below
          have BKg1 := m_g1
          clear m_g1
          go_wp2_with fail
          refine (rate_c g code _ w _ HD.out.cur HB.out (by omega)).mono ?_
          rintro e w8 ⟨n, d, rfl, hd⟩
          have n_ := am_ (R_dr flat_int (by (with_reducible repeat first | apply ra_ | apply rn_ | apply rd_); exact HO.out) (Dr.cur (by repeat first | exact HD.out | apply Dr.alloc | apply Dr.drewN | apply Dr.drew)) (by decide) hd)
          clear HO
          have HO := n_
          clear n_
          have na_ := am_ (R_dr flat_int (by (with_reducible repeat first | apply ra_ | apply rn_ | apply rd_); exact HA.out) (Dr.cur (by repeat first | exact HD.out | apply Dr.alloc | apply Dr.drewN | apply Dr.drew)) (by decide) hd)
          clear HA
          have HA := na_
          clear na_
          have m_g1 := am_ (hd.2.2.blk (g' := g1) (o := .cells #[.int .i64 0, .int .i64 0] 24 (0, 0)) (by repeat first | exact BKg1.out | refine ka_ ?_ _ | refine kn_ ?_ _ | refine kd_ ?_) NGg1.out.symm (by simp))
          have k_ := am_ (Dr.trans (by repeat first | exact HD.out | apply Dr.alloc | apply Dr.drewN | apply Dr.drew) hd)
          clear hd HD HB BKg1
          have HD := k_
          clear k_
          have HB := am_ HD.out.below
          have BKg1 := m_g1
          clear m_g1
          have NO := am_ (own_ne HO.out BKg1.out (by decide))
          have NA := am_ (own_ne HA.out BKg1.out (by decide))
          have yg1_0 : w8.cell? ⟨g1, 0, none⟩ = some (.int .i64 0) := (blk_cell BKg1.out 0).trans rfl; have fg1_0 := blk_frozen BKg1.out 0; have yg1_1 : w8.cell? ⟨g1, 1, none⟩ = some (.int .i64 0) := (blk_cell BKg1.out 1).trans rfl; have fg1_1 := blk_frozen BKg1.out 1
          go_wp2
          refine bodyPost_ret (results_list (rs := [.tmp 2, .tmp 3, .tmp 4, .cell 5 24, .tmp 6, .tmp 7]) rfl (by simp) (.tmp (.tmp (.tmp (.cell g1 24 #[.int .i64 n, .int .i64 d] (0, 0) _ rfl (by (with_reducible repeat first | refine kn_ ?_ _ | refine kd_ ?_ | refine ka_ ?_ _); refine blk_put (cs := #[.int .i64 n, .int .i64 0]) ?_ 1 _ rfl; (with_reducible repeat first | refine kn_ ?_ _ | refine kd_ ?_ | refine ka_ ?_ _); refine blk_put (cs := #[.int .i64 0, .int .i64 0]) ?_ 0 _ rfl; (with_reducible repeat first | refine kn_ ?_ _ | refine kd_ ?_ | refine ka_ ?_ _); exact BKg1.out) Try.underlying24 rfl (by kernel_rfl) (.tmp (.tmp .nil))))))) rfl ?_
          exact ⟨_, (.slice Ad ys.length cd), xs, ys, t0, n, d, kb, km, rfl, R_offJ (R_offJ HA.out NA.out 0 _) NA.out 1 _, HXL.out, R_offJ (R_offJ HO.out NO.out 0 _) NO.out 1 _, HYL.out, (by repeat first | (with_reducible first | exact HB.out | apply ba_ | apply bn_ | apply bd_ | refine below_set ?_ GEg1.out) | exact HB.out)⟩
        | true =>
          by_cases hy : 0 < ys.length
          · have d1 : decide (0 < ys.length) = true := decide_eq_true hy
            have d2 : decide ((0 : Int) < (ys.length : Int)) = true := decide_eq_true (by omega)
            have hy2 : (0 : Int) < (ys.length : Int) := by omega
            obtain ⟨gd, egd⟩ := R_head HO.out hy
            subst egd
            have LD := am_ (show w3.heap.size ≤ gd from HL.out gd rfl)
            have NGd := am_ (show g ≠ gd from fun e => own_cur HO.out HD.out.cur (by decide) (by rw [e]; rfl))
            have ND1 := am_ (show g1 ≠ gd from fun e => own_ne HO.out BKg1.out (by decide) (by rw [e]; rfl))
            obtain ⟨cellsd, hcd⟩ := R_block HO.out hy
            have fd := blk_frozen hcd 0
            obtain ⟨Y0, hY0⟩ : ∃ Y, Y = ys.getD 0 0 := ⟨_, rfl⟩
            have yd : w5.cell? ⟨gd, 0, none⟩ = some (.int .i64 Y0) := by rw [hY0]; exact cellsOfD (R_C HO.out) 0 hy
            clear hcd hY0
            have HYL2 := HYL.out
            go_upto_region 13 with (fail)
            clear fd yd
            have n_ := am_ (show (Kd.int .i64).R 3 (w5.setCell ⟨gd, 0, none⟩ (.int .i64 (t0 - 1))) w.heap.size (fun _ => True) (.slice (some ⟨gd, 0, none⟩) ys.length cd) (ys.set 0 (t0 - 1)) from Kd.R_putn HO.out 0 (t0 - 1))
            have a_ := am_ (Kd.R_mono (Kd.R_far (p := ⟨gd, 0, none⟩) (show (Kd.int .i64).R 3 _ _ (fun k => k < w3.heap.size) _ _ from R_flat flat_int HA.out (fun k hk => EA.out k hk)) (fun k hk => by have := LD.out; show k ≠ gd; omega) (.int .i64 (t0 - 1))) (fun _ _ => trivial) : (Kd.int .i64).R 3 (w5.setCell ⟨gd, 0, none⟩ (.int .i64 (t0 - 1))) w.heap.size (fun _ => True) (.slice Aa xs.length ca) xs)
            have m_ := am_ (kf_ BKg1.out (p := ⟨gd, 0, none⟩) ND1.out (.int .i64 (t0 - 1)))
            have k_ := am_ (Dr.set HD.out LD.out (below_size HB3.out) NGd.out 0 (.int .i64 (t0 - 1)))
            have hlen : (ys.set 0 (t0 - 1)).length = ys.length := List.length_set
            obtain ⟨zs, hzs⟩ : ∃ zs, zs = ys.set 0 (t0 - 1) := ⟨_, rfl⟩
            rw [← hzs] at hlen n_
            clear HO HA HD HB BKg1 hzs
            have HO := n_
            have HA := a_
            have BKg1 := m_
            have HD := k_
            clear n_ a_ m_ k_
            have HB := am_ HD.out.below
            generalize w5.setCell ⟨gd, 0, none⟩ (.int .i64 (t0 - 1)) = w6 at HO HA BKg1 HD HB ⊢
            have HZL := am_ (show zs.length ≤ 200 from by omega)
            rw [← hlen]
            rw [← hlen] at HO
            clear hlen d1 d2 hy2 hy HYL2
            go_wp2_with fail
            refine (terms15_c g code _ w _ HD.out.cur HB.out (by omega)).mono ?_
            rintro e w7 ⟨kb, km, rfl, hd⟩
            have n_ := am_ (R_dr flat_int (by (with_reducible repeat first | apply ra_ | apply rn_ | apply rd_); exact HO.out) (Dr.cur (by repeat first | exact HD.out | apply Dr.alloc | apply Dr.drewN | apply Dr.drew)) (by decide) hd)
            clear HO
            have HO := n_
            clear n_
            have na_ := am_ (R_dr flat_int (by (with_reducible repeat first | apply ra_ | apply rn_ | apply rd_); exact HA.out) (Dr.cur (by repeat first | exact HD.out | apply Dr.alloc | apply Dr.drewN | apply Dr.drew)) (by decide) hd)
            clear HA
            have HA := na_
            clear na_
            have m_g1 := am_ (hd.2.2.blk (g' := g1) (o := .cells #[.int .i64 0, .int .i64 0] 24 (0, 0)) (by repeat first | exact BKg1.out | refine ka_ ?_ _ | refine kn_ ?_ _ | refine kd_ ?_) NGg1.out.symm (by simp))
            have k_ := am_ (Dr.trans (by repeat first | exact HD.out | apply Dr.alloc | apply Dr.drewN | apply Dr.drew) hd)
            clear hd HD HB BKg1
            have HD := k_
            clear k_
            have HB := am_ HD.out.below
            have BKg1 := m_g1
            clear m_g1
            go_wp2_with fail
            refine (rate_c g code _ w _ HD.out.cur HB.out (by omega)).mono ?_
            rintro e w8 ⟨n, d, rfl, hd⟩
            have n_ := am_ (R_dr flat_int (by (with_reducible repeat first | apply ra_ | apply rn_ | apply rd_); exact HO.out) (Dr.cur (by repeat first | exact HD.out | apply Dr.alloc | apply Dr.drewN | apply Dr.drew)) (by decide) hd)
            clear HO
            have HO := n_
            clear n_
            have na_ := am_ (R_dr flat_int (by (with_reducible repeat first | apply ra_ | apply rn_ | apply rd_); exact HA.out) (Dr.cur (by repeat first | exact HD.out | apply Dr.alloc | apply Dr.drewN | apply Dr.drew)) (by decide) hd)
            clear HA
            have HA := na_
            clear na_
            have m_g1 := am_ (hd.2.2.blk (g' := g1) (o := .cells #[.int .i64 0, .int .i64 0] 24 (0, 0)) (by repeat first | exact BKg1.out | refine ka_ ?_ _ | refine kn_ ?_ _ | refine kd_ ?_) NGg1.out.symm (by simp))
            have k_ := am_ (Dr.trans (by repeat first | exact HD.out | apply Dr.alloc | apply Dr.drewN | apply Dr.drew) hd)
            clear hd HD HB BKg1
            have HD := k_
            clear k_
            have HB := am_ HD.out.below
            have BKg1 := m_g1
            clear m_g1
            have NO := am_ (own_ne HO.out BKg1.out (by decide))
            have NA := am_ (own_ne HA.out BKg1.out (by decide))
            have yg1_0 : w8.cell? ⟨g1, 0, none⟩ = some (.int .i64 0) := (blk_cell BKg1.out 0).trans rfl; have fg1_0 := blk_frozen BKg1.out 0; have yg1_1 : w8.cell? ⟨g1, 1, none⟩ = some (.int .i64 0) := (blk_cell BKg1.out 1).trans rfl; have fg1_1 := blk_frozen BKg1.out 1
            go_wp2
            refine bodyPost_ret (results_list (rs := [.tmp 2, .tmp 3, .tmp 4, .cell 5 24, .tmp 6, .tmp 7]) rfl (by simp) (.tmp (.tmp (.tmp (.cell g1 24 #[.int .i64 n, .int .i64 d] (0, 0) _ rfl (by (with_reducible repeat first | refine kn_ ?_ _ | refine kd_ ?_ | refine ka_ ?_ _); refine blk_put (cs := #[.int .i64 n, .int .i64 0]) ?_ 1 _ rfl; (with_reducible repeat first | refine kn_ ?_ _ | refine kd_ ?_ | refine ka_ ?_ _); refine blk_put (cs := #[.int .i64 0, .int .i64 0]) ?_ 0 _ rfl; (with_reducible repeat first | refine kn_ ?_ _ | refine kd_ ?_ | refine ka_ ?_ _); exact BKg1.out) Try.underlying24 rfl (by kernel_rfl) (.tmp (.tmp .nil))))))) rfl ?_
            exact ⟨_, (.slice (some ⟨gd, 0, none⟩) zs.length cd), xs, zs, t0, n, d, kb, km, rfl, R_offJ (R_offJ HA.out NA.out 0 _) NA.out 1 _, HXL.out, R_offJ (R_offJ HO.out NO.out 0 _) NO.out 1 _, HZL.out, (by repeat first | (with_reducible first | exact HB.out | apply ba_ | apply bn_ | apply bd_ | refine below_set ?_ GEg1.out) | exact HB.out)⟩
          · have d1 : decide (0 < ys.length) = false := decide_eq_false hy
            have d2 : decide ((0 : Int) < (ys.length : Int)) = false := decide_eq_false (by omega)
            clear hy
            go_wp2_with fail
            refine (terms15_c g code _ w _ HD.out.cur HB.out (by omega)).mono ?_
            rintro e w7 ⟨kb, km, rfl, hd⟩
            have n_ := am_ (R_dr flat_int (by (with_reducible repeat first | apply ra_ | apply rn_ | apply rd_); exact HO.out) (Dr.cur (by repeat first | exact HD.out | apply Dr.alloc | apply Dr.drewN | apply Dr.drew)) (by decide) hd)
            clear HO
            have HO := n_
            clear n_
            have na_ := am_ (R_dr flat_int (by (with_reducible repeat first | apply ra_ | apply rn_ | apply rd_); exact HA.out) (Dr.cur (by repeat first | exact HD.out | apply Dr.alloc | apply Dr.drewN | apply Dr.drew)) (by decide) hd)
            clear HA
            have HA := na_
            clear na_
            have m_g1 := am_ (hd.2.2.blk (g' := g1) (o := .cells #[.int .i64 0, .int .i64 0] 24 (0, 0)) (by repeat first | exact BKg1.out | refine ka_ ?_ _ | refine kn_ ?_ _ | refine kd_ ?_) NGg1.out.symm (by simp))
            have k_ := am_ (Dr.trans (by repeat first | exact HD.out | apply Dr.alloc | apply Dr.drewN | apply Dr.drew) hd)
            clear hd HD HB BKg1
            have HD := k_
            clear k_
            have HB := am_ HD.out.below
            have BKg1 := m_g1
            clear m_g1
            go_wp2_with fail
            refine (rate_c g code _ w _ HD.out.cur HB.out (by omega)).mono ?_
            rintro e w8 ⟨n, d, rfl, hd⟩
            have n_ := am_ (R_dr flat_int (by (with_reducible repeat first | apply ra_ | apply rn_ | apply rd_); exact HO.out) (Dr.cur (by repeat first | exact HD.out | apply Dr.alloc | apply Dr.drewN | apply Dr.drew)) (by decide) hd)
            clear HO
            have HO := n_
            clear n_
            have na_ := am_ (R_dr flat_int (by (with_reducible repeat first | apply ra_ | apply rn_ | apply rd_); exact HA.out) (Dr.cur (by repeat first | exact HD.out | apply Dr.alloc | apply Dr.drewN | apply Dr.drew)) (by decide) hd)
            clear HA
            have HA := na_
            clear na_
            have m_g1 := am_ (hd.2.2.blk (g' := g1) (o := .cells #[.int .i64 0, .int .i64 0] 24 (0, 0)) (by repeat first | exact BKg1.out | refine ka_ ?_ _ | refine kn_ ?_ _ | refine kd_ ?_) NGg1.out.symm (by simp))
            have k_ := am_ (Dr.trans (by repeat first | exact HD.out | apply Dr.alloc | apply Dr.drewN | apply Dr.drew) hd)
            clear hd HD HB BKg1
            have HD := k_
            clear k_
            have HB := am_ HD.out.below
            have BKg1 := m_g1
            clear m_g1
            have NO := am_ (own_ne HO.out BKg1.out (by decide))
            have NA := am_ (own_ne HA.out BKg1.out (by decide))
            have yg1_0 : w8.cell? ⟨g1, 0, none⟩ = some (.int .i64 0) := (blk_cell BKg1.out 0).trans rfl; have fg1_0 := blk_frozen BKg1.out 0; have yg1_1 : w8.cell? ⟨g1, 1, none⟩ = some (.int .i64 0) := (blk_cell BKg1.out 1).trans rfl; have fg1_1 := blk_frozen BKg1.out 1
            go_wp2
            refine bodyPost_ret (results_list (rs := [.tmp 2, .tmp 3, .tmp 4, .cell 5 24, .tmp 6, .tmp 7]) rfl (by simp) (.tmp (.tmp (.tmp (.cell g1 24 #[.int .i64 n, .int .i64 d] (0, 0) _ rfl (by (with_reducible repeat first | refine kn_ ?_ _ | refine kd_ ?_ | refine ka_ ?_ _); refine blk_put (cs := #[.int .i64 n, .int .i64 0]) ?_ 1 _ rfl; (with_reducible repeat first | refine kn_ ?_ _ | refine kd_ ?_ | refine ka_ ?_ _); refine blk_put (cs := #[.int .i64 0, .int .i64 0]) ?_ 0 _ rfl; (with_reducible repeat first | refine kn_ ?_ _ | refine kd_ ?_ | refine ka_ ?_ _); exact BKg1.out) Try.underlying24 rfl (by kernel_rfl) (.tmp (.tmp .nil))))))) rfl ?_
            exact ⟨_, (.slice Ad ys.length cd), xs, ys, t0, n, d, kb, km, rfl, R_offJ (R_offJ HA.out NA.out 0 _) NA.out 1 _, HXL.out, R_offJ (R_offJ HO.out NO.out 0 _) NO.out 1 _, HYL.out, (by repeat first | (with_reducible first | exact HB.out | apply ba_ | apply bn_ | apply bd_ | refine below_set ?_ GEg1.out) | exact HB.out)⟩
      | true =>
        go_wp2_with (((with_reducible refine gate_builtin (b := .append) (xs := #[.tmp 39, .tmp 41]) rfl ?_); at_builtin; refine Kd.R_append (Kd.int .i64) (w0 := w) w.heap.size rfl (.tmp 39) (.tmp 41) 35 3 (.int .i64 0) 8 rfl Try.underlying35 infoI rfl (by decide) (by omega) u11 out t0 [.int .i64 t0] (fun _ => True) (fun _ => False) rfl rfl ?aP (fun _ hk => hk.elim) ?aF ?aO ?aB ?aS ?aL ?_; (case aP => exact rfl); (case aB => exact (by repeat first | (with_reducible first | exact HB.out | apply ba_ | apply bn_ | apply bd_) | exact HB.out)); (case aF => exact (fun _ _ => trivial)); (case aO => exact (by (with_reducible repeat first | apply ra_ | apply rn_ | apply rd_); exact HO.out)); (case aS => exact (below_size (by repeat first | (with_reducible first | exact HB.out | apply ba_ | apply bn_ | apply bd_) | exact HB.out))); (case aL => omega); intro v1 w1 ho hb hg hat); have n_ := am_ ho; have l_ := am_ (HL.out.app HD.out.size hat); have ga_ := am_ (Kd.R_mono (Kd.R_grown (show (Kd.int .i64).R 3 _ _ (fun k => k < w3.heap.size) _ _ from R_flat flat_int (by (with_reducible repeat first | apply ra_ | apply rn_ | apply rd_); exact HA.out) (fun k hk => EA.out k hk)) hg (fun k hk e => by have := HL.out k e.symm; omega)) (fun _ _ => trivial)); have m_ := am_ (blk_grown BKg1.out hg (own_ne HO.out BKg1.out (by decide))); have k_ := am_ (HD.out.grown hg HL.out hb (own_cur HO.out HD.out.cur (by decide))); clear HO HL HA HD HB BKg1; have HO := n_; have HL := l_; have HA := ga_; have BKg1 := m_; have HD := k_; have HB := am_ hb; clear n_ l_ ga_ m_ k_ ho hb hg hat)
        go_wp2_with fail
        refine (one_c 20 (by decide) g code _ w _ HD.out.cur HB.out (by omega)).mono ?_
        rintro e w5 ⟨b2, rfl, hd⟩
        have n_ := am_ (R_dr flat_int (by (with_reducible repeat first | apply ra_ | apply rn_ | apply rd_); exact HO.out) (Dr.cur (by repeat first | exact HD.out | apply Dr.alloc | apply Dr.drewN | apply Dr.drew)) (by decide) hd)
        clear HO
        have HO := n_
        clear n_
        have na_ := am_ (R_dr flat_int (by (with_reducible repeat first | apply ra_ | apply rn_ | apply rd_); exact HA.out) (Dr.cur (by repeat first | exact HD.out | apply Dr.alloc | apply Dr.drewN | apply Dr.drew)) (by decide) hd)
        clear HA
        have HA := na_
        clear na_
        have m_g1 := am_ (hd.2.2.blk (g' := g1) (o := .cells #[.int .i64 0, .int .i64 0] 24 (0, 0)) (by repeat first | exact BKg1.out | refine ka_ ?_ _ | refine kn_ ?_ _ | refine kd_ ?_) NGg1.out.symm (by simp))
        have k_ := am_ (Dr.trans (by repeat first | exact HD.out | apply Dr.alloc | apply Dr.drewN | apply Dr.drew) hd)
        clear hd HD HB BKg1
        have HD := k_
        clear k_
        have HB := am_ HD.out.below
        have BKg1 := m_g1
        clear m_g1
        obtain ⟨ys, hys⟩ : ∃ ys, ys = (out ++ [t0]) := ⟨_, rfl⟩
        have HYL := am_ (show ys.length ≤ 200 from by rw [hys]; rw [List.length_append, List.length_singleton]; omega)
        rw [← hys] at HO
        clear hys
        obtain ⟨Ad, cd, ed⟩ := Kd.R_slice HO.out
        subst ed
        cases b2 with
        | false =>
          go_wp2_with fail
          refine (terms15_c g code _ w _ HD.out.cur HB.out (by omega)).mono ?_
          rintro e w7 ⟨kb, km, rfl, hd⟩
          have n_ := am_ (R_dr flat_int (by (with_reducible repeat first | apply ra_ | apply rn_ | apply rd_); exact HO.out) (Dr.cur (by repeat first | exact HD.out | apply Dr.alloc | apply Dr.drewN | apply Dr.drew)) (by decide) hd)
          clear HO
          have HO := n_
          clear n_
          have na_ := am_ (R_dr flat_int (by (with_reducible repeat first | apply ra_ | apply rn_ | apply rd_); exact HA.out) (Dr.cur (by repeat first | exact HD.out | apply Dr.alloc | apply Dr.drewN | apply Dr.drew)) (by decide) hd)
          clear HA
          have HA := na_
          clear na_
          have m_g1 := am_ (hd.2.2.blk (g' := g1) (o := .cells #[.int .i64 0, .int .i64 0] 24 (0, 0)) (by repeat first | exact BKg1.out | refine ka_ ?_ _ | refine kn_ ?_ _ | refine kd_ ?_) NGg1.out.symm (by simp))
          have k_ := am_ (Dr.trans (by repeat first | exact HD.out | apply Dr.alloc | apply Dr.drewN | apply Dr.drew) hd)
          clear hd HD HB BKg1
          have HD := k_
          clear k_
          have HB := am_ HD.out.below
          have BKg1 := m_g1
          clear m_g1
          go_wp2_with fail
          refine (rate_c g code _ w _ HD.out.cur HB.out (by omega)).mono ?_
          rintro e w8 ⟨n, d, rfl, hd⟩
          have n_ := am_ (R_dr flat_int (by (with_reducible repeat first | apply ra_ | apply rn_ | apply rd_); exact HO.out) (Dr.cur (by repeat first | exact HD.out | apply Dr.alloc | apply Dr.drewN | apply Dr.drew)) (by decide) hd)
          clear HO
          have HO := n_
          clear n_
          have na_ := am_ (R_dr flat_int (by (with_reducible repeat first | apply ra_ | apply rn_ | apply rd_); exact HA.out) (Dr.cur (by repeat first | exact HD.out | apply Dr.alloc | apply Dr.drewN | apply Dr.drew)) (by decide) hd)
          clear HA
          have HA := na_
          clear na_
          have m_g1 := am_ (hd.2.2.blk (g' := g1) (o := .cells #[.int .i64 0, .int .i64 0] 24 (0, 0)) (by repeat first | exact BKg1.out | refine ka_ ?_ _ | refine kn_ ?_ _ | refine kd_ ?_) NGg1.out.symm (by simp))
          have k_ := am_ (Dr.trans (by repeat first | exact HD.out | apply Dr.alloc | apply Dr.drewN | apply Dr.drew) hd)
          clear hd HD HB BKg1
          have HD := k_
          clear k_
          have HB := am_ HD.out.below
          have BKg1 := m_g1
          clear m_g1
          have NO := am_ (own_ne HO.out BKg1.out (by decide))
          have NA := am_ (own_ne HA.out BKg1.out (by decide))
          have yg1_0 : w8.cell? ⟨g1, 0, none⟩ = some (.int .i64 0) := (blk_cell BKg1.out 0).trans rfl; have fg1_0 := blk_frozen BKg1.out 0; have yg1_1 : w8.cell? ⟨g1, 1, none⟩ = some (.int .i64 0) := (blk_cell BKg1.out 1).trans rfl; have fg1_1 := blk_frozen BKg1.out 1
          go_wp2
          refine bodyPost_ret (results_list (rs := [.tmp 2, .tmp 3, .tmp 4, .cell 5 24, .tmp 6, .tmp 7]) rfl (by simp) (.tmp (.tmp (.tmp (.cell g1 24 #[.int .i64 n, .int .i64 d] (0, 0) _ rfl (by (with_reducible repeat first | refine kn_ ?_ _ | refine kd_ ?_ | refine ka_ ?_ _); refine blk_put (cs := #[.int .i64 n, .int .i64 0]) ?_ 1 _ rfl; (with_reducible repeat first | refine kn_ ?_ _ | refine kd_ ?_ | refine ka_ ?_ _); refine blk_put (cs := #[.int .i64 0, .int .i64 0]) ?_ 0 _ rfl; (with_reducible repeat first | refine kn_ ?_ _ | refine kd_ ?_ | refine ka_ ?_ _); exact BKg1.out) Try.underlying24 rfl (by kernel_rfl) (.tmp (.tmp .nil))))))) rfl ?_
          exact ⟨_, (.slice Ad ys.length cd), xs, ys, t0, n, d, kb, km, rfl, R_offJ (R_offJ HA.out NA.out 0 _) NA.out 1 _, HXL.out, R_offJ (R_offJ HO.out NO.out 0 _) NO.out 1 _, HYL.out, (by repeat first | (with_reducible first | exact HB.out | apply ba_ | apply bn_ | apply bd_ | refine below_set ?_ GEg1.out) | exact HB.out)⟩
        | true =>
          by_cases hy : 0 < ys.length
          · have d1 : decide (0 < ys.length) = true := decide_eq_true hy
            have d2 : decide ((0 : Int) < (ys.length : Int)) = true := decide_eq_true (by omega)
            have hy2 : (0 : Int) < (ys.length : Int) := by omega
            obtain ⟨gd, egd⟩ := R_head HO.out hy
            subst egd
            have LD := am_ (show w3.heap.size ≤ gd from HL.out gd rfl)
            have NGd := am_ (show g ≠ gd from fun e => own_cur HO.out HD.out.cur (by decide) (by rw [e]; rfl))
            have ND1 := am_ (show g1 ≠ gd from fun e => own_ne HO.out BKg1.out (by decide) (by rw [e]; rfl))
            obtain ⟨cellsd, hcd⟩ := R_block HO.out hy
            have fd := blk_frozen hcd 0
            obtain ⟨Y0, hY0⟩ : ∃ Y, Y = ys.getD 0 0 := ⟨_, rfl⟩
            have yd : w5.cell? ⟨gd, 0, none⟩ = some (.int .i64 Y0) := by rw [hY0]; exact cellsOfD (R_C HO.out) 0 hy
            clear hcd hY0
            have HYL2 := HYL.out
            go_upto_region 13 with (fail)
            clear fd yd
            have n_ := am_ (show (Kd.int .i64).R 3 (w5.setCell ⟨gd, 0, none⟩ (.int .i64 (t0 - 1))) w.heap.size (fun _ => True) (.slice (some ⟨gd, 0, none⟩) ys.length cd) (ys.set 0 (t0 - 1)) from Kd.R_putn HO.out 0 (t0 - 1))
            have a_ := am_ (Kd.R_mono (Kd.R_far (p := ⟨gd, 0, none⟩) (show (Kd.int .i64).R 3 _ _ (fun k => k < w3.heap.size) _ _ from R_flat flat_int HA.out (fun k hk => EA.out k hk)) (fun k hk => by have := LD.out; show k ≠ gd; omega) (.int .i64 (t0 - 1))) (fun _ _ => trivial) : (Kd.int .i64).R 3 (w5.setCell ⟨gd, 0, none⟩ (.int .i64 (t0 - 1))) w.heap.size (fun _ => True) (.slice Aa xs.length ca) xs)
            have m_ := am_ (kf_ BKg1.out (p := ⟨gd, 0, none⟩) ND1.out (.int .i64 (t0 - 1)))
            have k_ := am_ (Dr.set HD.out LD.out (below_size HB3.out) NGd.out 0 (.int .i64 (t0 - 1)))
            have hlen : (ys.set 0 (t0 - 1)).length = ys.length := List.length_set
            obtain ⟨zs, hzs⟩ : ∃ zs, zs = ys.set 0 (t0 - 1) := ⟨_, rfl⟩
            rw [← hzs] at hlen n_
            clear HO HA HD HB BKg1 hzs
            have HO := n_
            have HA := a_
            have BKg1 := m_
            have HD := k_
            clear n_ a_ m_ k_
            have HB := am_ HD.out.below
            generalize w5.setCell ⟨gd, 0, none⟩ (.int .i64 (t0 - 1)) = w6 at HO HA BKg1 HD HB ⊢
            have HZL := am_ (show zs.length ≤ 200 from by omega)
            rw [← hlen]
            rw [← hlen] at HO
            clear hlen d1 d2 hy2 hy HYL2
            go_wp2_with fail
            refine (terms15_c g code _ w _ HD.out.cur HB.out (by omega)).mono ?_
            rintro e w7 ⟨kb, km, rfl, hd⟩
            have n_ := am_ (R_dr flat_int (by (with_reducible repeat first | apply ra_ | apply rn_ | apply rd_); exact HO.out) (Dr.cur (by repeat first | exact HD.out | apply Dr.alloc | apply Dr.drewN | apply Dr.drew)) (by decide) hd)
            clear HO
            have HO := n_
            clear n_
            have na_ := am_ (R_dr flat_int (by (with_reducible repeat first | apply ra_ | apply rn_ | apply rd_); exact HA.out) (Dr.cur (by repeat first | exact HD.out | apply Dr.alloc | apply Dr.drewN | apply Dr.drew)) (by decide) hd)
            clear HA
            have HA := na_
            clear na_
            have m_g1 := am_ (hd.2.2.blk (g' := g1) (o := .cells #[.int .i64 0, .int .i64 0] 24 (0, 0)) (by repeat first | exact BKg1.out | refine ka_ ?_ _ | refine kn_ ?_ _ | refine kd_ ?_) NGg1.out.symm (by simp))
            have k_ := am_ (Dr.trans (by repeat first | exact HD.out | apply Dr.alloc | apply Dr.drewN | apply Dr.drew) hd)
            clear hd HD HB BKg1
            have HD := k_
            clear k_
            have HB := am_ HD.out.below
            have BKg1 := m_g1
            clear m_g1
            go_wp2_with fail
            refine (rate_c g code _ w _ HD.out.cur HB.out (by omega)).mono ?_
            rintro e w8 ⟨n, d, rfl, hd⟩
            have n_ := am_ (R_dr flat_int (by (with_reducible repeat first | apply ra_ | apply rn_ | apply rd_); exact HO.out) (Dr.cur (by repeat first | exact HD.out | apply Dr.alloc | apply Dr.drewN | apply Dr.drew)) (by decide) hd)
            clear HO
            have HO := n_
            clear n_
            have na_ := am_ (R_dr flat_int (by (with_reducible repeat first | apply ra_ | apply rn_ | apply rd_); exact HA.out) (Dr.cur (by repeat first | exact HD.out | apply Dr.alloc | apply Dr.drewN | apply Dr.drew)) (by decide) hd)
            clear HA
            have HA := na_
            clear na_
            have m_g1 := am_ (hd.2.2.blk (g' := g1) (o := .cells #[.int .i64 0, .int .i64 0] 24 (0, 0)) (by repeat first | exact BKg1.out | refine ka_ ?_ _ | refine kn_ ?_ _ | refine kd_ ?_) NGg1.out.symm (by simp))
            have k_ := am_ (Dr.trans (by repeat first | exact HD.out | apply Dr.alloc | apply Dr.drewN | apply Dr.drew) hd)
            clear hd HD HB BKg1
            have HD := k_
            clear k_
            have HB := am_ HD.out.below
            have BKg1 := m_g1
            clear m_g1
            have NO := am_ (own_ne HO.out BKg1.out (by decide))
            have NA := am_ (own_ne HA.out BKg1.out (by decide))
            have yg1_0 : w8.cell? ⟨g1, 0, none⟩ = some (.int .i64 0) := (blk_cell BKg1.out 0).trans rfl; have fg1_0 := blk_frozen BKg1.out 0; have yg1_1 : w8.cell? ⟨g1, 1, none⟩ = some (.int .i64 0) := (blk_cell BKg1.out 1).trans rfl; have fg1_1 := blk_frozen BKg1.out 1
            go_wp2
            refine bodyPost_ret (results_list (rs := [.tmp 2, .tmp 3, .tmp 4, .cell 5 24, .tmp 6, .tmp 7]) rfl (by simp) (.tmp (.tmp (.tmp (.cell g1 24 #[.int .i64 n, .int .i64 d] (0, 0) _ rfl (by (with_reducible repeat first | refine kn_ ?_ _ | refine kd_ ?_ | refine ka_ ?_ _); refine blk_put (cs := #[.int .i64 n, .int .i64 0]) ?_ 1 _ rfl; (with_reducible repeat first | refine kn_ ?_ _ | refine kd_ ?_ | refine ka_ ?_ _); refine blk_put (cs := #[.int .i64 0, .int .i64 0]) ?_ 0 _ rfl; (with_reducible repeat first | refine kn_ ?_ _ | refine kd_ ?_ | refine ka_ ?_ _); exact BKg1.out) Try.underlying24 rfl (by kernel_rfl) (.tmp (.tmp .nil))))))) rfl ?_
            exact ⟨_, (.slice (some ⟨gd, 0, none⟩) zs.length cd), xs, zs, t0, n, d, kb, km, rfl, R_offJ (R_offJ HA.out NA.out 0 _) NA.out 1 _, HXL.out, R_offJ (R_offJ HO.out NO.out 0 _) NO.out 1 _, HZL.out, (by repeat first | (with_reducible first | exact HB.out | apply ba_ | apply bn_ | apply bd_ | refine below_set ?_ GEg1.out) | exact HB.out)⟩
          · have d1 : decide (0 < ys.length) = false := decide_eq_false hy
            have d2 : decide ((0 : Int) < (ys.length : Int)) = false := decide_eq_false (by omega)
            clear hy
            go_wp2_with fail
            refine (terms15_c g code _ w _ HD.out.cur HB.out (by omega)).mono ?_
            rintro e w7 ⟨kb, km, rfl, hd⟩
            have n_ := am_ (R_dr flat_int (by (with_reducible repeat first | apply ra_ | apply rn_ | apply rd_); exact HO.out) (Dr.cur (by repeat first | exact HD.out | apply Dr.alloc | apply Dr.drewN | apply Dr.drew)) (by decide) hd)
            clear HO
            have HO := n_
            clear n_
            have na_ := am_ (R_dr flat_int (by (with_reducible repeat first | apply ra_ | apply rn_ | apply rd_); exact HA.out) (Dr.cur (by repeat first | exact HD.out | apply Dr.alloc | apply Dr.drewN | apply Dr.drew)) (by decide) hd)
            clear HA
            have HA := na_
            clear na_
            have m_g1 := am_ (hd.2.2.blk (g' := g1) (o := .cells #[.int .i64 0, .int .i64 0] 24 (0, 0)) (by repeat first | exact BKg1.out | refine ka_ ?_ _ | refine kn_ ?_ _ | refine kd_ ?_) NGg1.out.symm (by simp))
            have k_ := am_ (Dr.trans (by repeat first | exact HD.out | apply Dr.alloc | apply Dr.drewN | apply Dr.drew) hd)
            clear hd HD HB BKg1
            have HD := k_
            clear k_
            have HB := am_ HD.out.below
            have BKg1 := m_g1
            clear m_g1
            go_wp2_with fail
            refine (rate_c g code _ w _ HD.out.cur HB.out (by omega)).mono ?_
            rintro e w8 ⟨n, d, rfl, hd⟩
            have n_ := am_ (R_dr flat_int (by (with_reducible repeat first | apply ra_ | apply rn_ | apply rd_); exact HO.out) (Dr.cur (by repeat first | exact HD.out | apply Dr.alloc | apply Dr.drewN | apply Dr.drew)) (by decide) hd)
            clear HO
            have HO := n_
            clear n_
            have na_ := am_ (R_dr flat_int (by (with_reducible repeat first | apply ra_ | apply rn_ | apply rd_); exact HA.out) (Dr.cur (by repeat first | exact HD.out | apply Dr.alloc | apply Dr.drewN | apply Dr.drew)) (by decide) hd)
            clear HA
            have HA := na_
            clear na_
            have m_g1 := am_ (hd.2.2.blk (g' := g1) (o := .cells #[.int .i64 0, .int .i64 0] 24 (0, 0)) (by repeat first | exact BKg1.out | refine ka_ ?_ _ | refine kn_ ?_ _ | refine kd_ ?_) NGg1.out.symm (by simp))
            have k_ := am_ (Dr.trans (by repeat first | exact HD.out | apply Dr.alloc | apply Dr.drewN | apply Dr.drew) hd)
            clear hd HD HB BKg1
            have HD := k_
            clear k_
            have HB := am_ HD.out.below
            have BKg1 := m_g1
            clear m_g1
            have NO := am_ (own_ne HO.out BKg1.out (by decide))
            have NA := am_ (own_ne HA.out BKg1.out (by decide))
            have yg1_0 : w8.cell? ⟨g1, 0, none⟩ = some (.int .i64 0) := (blk_cell BKg1.out 0).trans rfl; have fg1_0 := blk_frozen BKg1.out 0; have yg1_1 : w8.cell? ⟨g1, 1, none⟩ = some (.int .i64 0) := (blk_cell BKg1.out 1).trans rfl; have fg1_1 := blk_frozen BKg1.out 1
            go_wp2
            refine bodyPost_ret (results_list (rs := [.tmp 2, .tmp 3, .tmp 4, .cell 5 24, .tmp 6, .tmp 7]) rfl (by simp) (.tmp (.tmp (.tmp (.cell g1 24 #[.int .i64 n, .int .i64 d] (0, 0) _ rfl (by (with_reducible repeat first | refine kn_ ?_ _ | refine kd_ ?_ | refine ka_ ?_ _); refine blk_put (cs := #[.int .i64 n, .int .i64 0]) ?_ 1 _ rfl; (with_reducible repeat first | refine kn_ ?_ _ | refine kd_ ?_ | refine ka_ ?_ _); refine blk_put (cs := #[.int .i64 0, .int .i64 0]) ?_ 0 _ rfl; (with_reducible repeat first | refine kn_ ?_ _ | refine kd_ ?_ | refine ka_ ?_ _); exact BKg1.out) Try.underlying24 rfl (by kernel_rfl) (.tmp (.tmp .nil))))))) rfl ?_
            exact ⟨_, (.slice Ad ys.length cd), xs, ys, t0, n, d, kb, km, rfl, R_offJ (R_offJ HA.out NA.out 0 _) NA.out 1 _, HXL.out, R_offJ (R_offJ HO.out NO.out 0 _) NO.out 1 _, HYL.out, (by repeat first | (with_reducible first | exact HB.out | apply ba_ | apply bn_ | apply bd_ | refine below_set ?_ GEg1.out) | exact HB.out)⟩
end Go.Proofs.Ytacfepaemphdgaa.O
