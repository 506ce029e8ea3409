/- Walks of our own, a part of those for the law FnRegular: each function's contract in plain Lean. No condition beyond the bounds that each contract names. -/
import Derived.Test.YtlmdghcpcohamaaPureFnRegular
import Derived.Deep.RegionWith
import Derived.Shelf.Sort.Plain
import Derived.Shelf.Lays
import Derived.Test.YtlmdghcpcohamaaOFnRegulara
import Derived.Test.YtlmdghcpcohamaaOFnRegularb
import Derived.Test.YtlmdghcpcohamaaOFnRegularc
import Derived.Test.YtlmdghcpcohamaaOFnRegulard
namespace Go.Proofs.Ytlmdghcpcohamaa.O
open Go.RowKit Go.Proofs.YtlmdghcpcohamaaW.PrintWords Go.Proofs.YtlmdghcpcohamaaW.PrintLast Go.Proofs.YtlmdghcpcohamaaW.PrintMore Go.Proofs.Ytlmdghcpcohamaa.PL14G Go.Proofs.Ytlmdghcpcohamaa.EvKit Go.Proofs.Ytlmdghcpcohamaa.Pure
set_option linter.unusedVariables false
set_option linter.unusedSimpArgs false
attribute [local go_sem] max2_int min2_int max_two min_two max_three min_three max_four min_four
set_option maxHeartbeats 16000000 in
set_option maxRecDepth 100000 in
theorem one_c (n : Int) (hn : 1 ≤ n ∧ n ≤ 200) (g : Nat) (code : List Int) (B : Int) (w wa : World) (hI : Cur w wa g code B) (hB : Below w.heap.size w wa) (hb : B ≤ 800000000000) :
    Calls Try.prog 81 #[.pointer (some ⟨g, 0, none⟩), .int .i64 n] wa fun e w' => ∃ x : Bool, e = .returned (.bool x) ∧ Dr w wa w' g code (B + 1) := by
  have HD := am_ (Dr.refl hI hB (Int.le_refl B))
  have HB := am_ hB
  clear hI hB
  go_enter Try.func81, Try.ntmps81
  go_wp2_with fail
  refine (pick_c n hn.2 g code _ w _ HD.out.cur HB.out (by omega)).mono ?_
  rintro e w2 ⟨v, rfl, _, hd⟩
  have k_ := am_ (Dr.trans (by repeat first | exact HD.out | apply Dr.alloc | apply Dr.drewN | apply Dr.drew) hd)
  clear hd HD HB
  have HD := k_
  clear k_
  have HB := am_ HD.out.below
  by_cases hv : v = 0
  · have q1 : (v == 0) = true := by simp [hv]
    have q2 : decide (v = 0) = true := decide_eq_true hv
    clear hv
    go_wp2
    go_ret
    exact ⟨true, rfl, HD.out.more (by omega)⟩
  · have q1 : (v == 0) = false := by simp [hv]
    have q2 : decide (v = 0) = false := decide_eq_false hv
    clear hv
    go_wp2
    go_ret
    exact ⟨false, rfl, HD.out.more (by omega)⟩
set_option maxHeartbeats 16000000 in
set_option maxRecDepth 100000 in
theorem pickB_c (n : Int) (hn : 200 < n ∧ n ≤ 65536) (g : Nat) (code : List Int) (B : Int) (w wa : World) (hI : Cur w wa g code B) (hB : Below w.heap.size w wa) (hb : B ≤ 800000000000) :
    Calls Try.prog 85 #[.pointer (some ⟨g, 0, none⟩), .int .i64 n] wa fun e w' => ∃ v, e = .returned (.int .i64 v) ∧ (0 ≤ v ∧ v < n) ∧ Dr w wa w' g code (B + 2) := by
  have HD := am_ (Dr.refl hI hB (Int.le_refl B))
  have HB := am_ hB
  clear hI hB
  have c1 : decide (n ≤ 1) = false := decide_eq_false (by omega)
  have c2 : decide (200 < n) = true := decide_eq_true hn.1
  have hnz : ¬ n = 0 := by omega
  have n0 := hn.1
  have n1 := hn.2
  go_enter Try.func85, Try.ntmps85
  go_wp2_with fail
  refine (next_c g code _ w _ HD.out.cur HB.out (by omega)).mono ?_
  rintro e w1 ⟨x, rfl, hx, hc, hb1, hk⟩
  have hd : Dr w wa w1 g code (B + 1) := ⟨hc, hb1, HD.out.2.2.trans hk (.inl rfl)⟩
  have x0 := hx.1
  have x1 := hx.2
  clear HD HB hc hb1 hk hx
  have HD := am_ hd
  have HB := am_ hd.below
  clear hd
  go_wp2_with fail
  refine (next_c g code _ w _ HD.out.cur HB.out (by omega)).mono ?_
  rintro e w2 ⟨y, rfl, hy, hc, hb1, hk⟩
  have hd : Dr w wa w2 g code (B + 1 + 1) := ⟨hc, hb1, HD.out.2.2.trans hk (.inl rfl)⟩
  have y0 := hy.1
  have y1 := hy.2
  clear HD HB hc hb1 hk hy
  have HD := am_ hd
  have HB := am_ hd.below
  clear hd
  have hme : (x * 256 + y).tmod n = (x * 256 + y) % n := Int.tmod_eq_emod_of_nonneg (by omega)
  have hm : 0 ≤ (x * 256 + y) % n ∧ (x * 256 + y) % n < n := ⟨Int.emod_nonneg _ hnz, Int.emod_lt_of_pos _ (by omega)⟩
  have HM := am_ hm
  have hw : wrap64 ((x * 256 + y) % n) = (x * 256 + y) % n := wrapId (by omega)
  clear hm
  go_wp2
  go_ret
  exact ⟨_, rfl, HM.out, HD.out.more (by omega)⟩
theorem day_in (ls : List Int) (h : ls.all (fun x => decide (0 ≤ x ∧ x ≤ 36524)) = true) : ∀ x ∈ ls, 0 ≤ x ∧ x ≤ 36524 := fun x hx => of_decide_eq_true (List.all_eq_true.mp h x hx)
set_option maxHeartbeats 16000000 in
set_option maxRecDepth 100000 in
theorem day_c (g : Nat) (code : List Int) (B : Int) (w wa : World) (hI : Cur w wa g code B) (hB : Below w.heap.size w wa) (hb : B ≤ 700000000000) :
    Calls Try.prog 112 #[.pointer (some ⟨g, 0, none⟩)] wa fun e w' => ∃ x, e = .returned (.int .i64 x) ∧ (0 ≤ x ∧ x ≤ 36524) ∧ Dr w wa w' g code (B + 4) := by
  have HD := am_ (Dr.refl hI hB (Int.le_refl B))
  have HB := am_ hB
  clear hI hB
  go_enter Try.func112, Try.ntmps112
  go_wp2_with fail
  refine (pick_c 6 (by decide) g code _ w _ HD.out.cur HB.out (by omega)).mono ?_
  rintro e w1 ⟨v, rfl, ⟨v0, v1⟩, hd⟩
  have k_ := am_ (Dr.trans (by repeat first | exact HD.out | apply Dr.alloc | apply Dr.drewN | apply Dr.drew) hd)
  clear hd HD HB
  have HD := k_
  clear k_
  have HB := am_ HD.out.below
  clear v1
  by_cases e0 : v = 0
  · subst e0
    go_wp2_with fail
    refine (among_c [0, 59, 60, 365, 366, 424, 425, 36524, 36523, 30, 31] _ 11 11 (by decide) g code _ w _ (HD.out.alloc _).cur (ba_ HB.out _) (by omega) (blk_new _ _)).mono ?_
    rintro e w2 ⟨x, rfl, hx, hd⟩
    have HX := am_ (day_in [0, 59, 60, 365, 366, 424, 425, 36524, 36523, 30, 31] (by decide) x hx)
    clear hx
    have k_ := am_ (Dr.trans (Dr.alloc HD.out _) hd)
    clear hd HD HB
    have HD := k_
    clear k_
    have HB := am_ HD.out.below
    go_wp2
    go_ret
    exact ⟨x, rfl, HX.out, HD.out.more (by omega)⟩
  · have q0 : (v == 0) = false := by simp [e0]
    have z0 : decide (v = 0) = false := decide_eq_false e0
    by_cases e1 : v = 1
    · subst e1
      clear q0 z0 e0
      go_wp2_with fail
      refine (pickB_c 36525 (by decide) g code _ w _ HD.out.cur HB.out (by omega)).mono ?_
      rintro e w2 ⟨x, rfl, hx, hd⟩
      have HX := am_ hx
      clear hx
      have k_ := am_ (Dr.trans (by repeat first | exact HD.out | apply Dr.alloc | apply Dr.drewN | apply Dr.drew) hd)
      clear hd HD HB
      have HD := k_
      clear k_
      have HB := am_ HD.out.below
      go_wp2
      go_ret
      exact ⟨x, rfl, by have := HX.out; omega, HD.out.more (by omega)⟩
    · have q1 : (v == 1) = false := by simp [e1]
      have z1 : decide (v = 1) = false := decide_eq_false e1
      go_wp2_with fail
      refine (pickB_c 1500 (by decide) g code _ w _ HD.out.cur HB.out (by omega)).mono ?_
      rintro e w2 ⟨x, rfl, hx, hd⟩
      have HX := am_ hx
      clear hx
      have k_ := am_ (Dr.trans (by repeat first | exact HD.out | apply Dr.alloc | apply Dr.drewN | apply Dr.drew) hd)
      clear hd HD HB
      have HD := k_
      clear k_
      have HB := am_ HD.out.below
      go_wp2
      go_ret
      exact ⟨x, rfl, by have := HX.out; omega, HD.out.more (by omega)⟩
set_option maxHeartbeats 16000000 in
set_option maxRecDepth 100000 in
theorem near4_c (g : Nat) (code : List Int) (B : Int) (w wa : World) (hI : Cur w wa g code B) (hB : Below w.heap.size w wa) (hb : B ≤ 700000000000) :
    Calls Try.prog 82 #[.pointer (some ⟨g, 0, none⟩)] wa fun e w' => ∃ x, e = .returned (.int .i64 x) ∧ (-1000 ≤ x ∧ x ≤ 40000) ∧ Dr w wa w' g code (B + 10) := by
  have HD := am_ (Dr.refl hI hB (Int.le_refl B))
  have HB := am_ hB
  clear hI hB
  have HB0 := am_ HB.out
  go_enter Try.func82, Try.ntmps82
  go_wp2_with fail
  refine (day_c g code _ w _ HD.out.cur HB.out (by omega)).mono ?_
  rintro e w1 ⟨x, rfl, hx, hd⟩
  have HX := am_ hx
  clear hx
  have k_ := am_ (Dr.trans (by repeat first | exact HD.out | apply Dr.alloc | apply Dr.drewN | apply Dr.drew) hd)
  clear hd HD HB
  have HD := k_
  clear k_
  have HB := am_ HD.out.below
  go_wp2_with fail
  refine (one_c 3 (by decide) g code _ w _ HD.out.cur HB.out (by omega)).mono ?_
  rintro e w2 ⟨bb, rfl, hd⟩
  have k_ := am_ (Dr.trans (by repeat first | exact HD.out | apply Dr.alloc | apply Dr.drewN | apply Dr.drew) hd)
  clear hd HD HB
  have HD := k_
  clear k_
  have HB := am_ HD.out.below
  cases bb with
  | false =>
    go_wp2
    go_ret
    exact ⟨x, rfl, by have := HX.out; omega, HD.out.more (by omega)⟩
  | true =>
    obtain ⟨k1, hk1⟩ := roundsOf (specDateC_ev x HX.out)
    have HDT := am_ (dateC_is x HX.out)
    obtain ⟨DT, hDT⟩ : ∃ D, D = dateC x := ⟨_, rfl⟩
    rw [← hDT] at hk1 HDT
    clear hDT
    obtain ⟨y, m, d⟩ := DT
    have hy : 2000 ≤ y ∧ y ≤ 2099 := HDT.out.1
    have hm : 1 ≤ m ∧ m ≤ 12 := HDT.out.2.1
    have hdim := dim_bd y m
    have hdb := dby_bd y (by omega)
    have hcb := cum_bd y m
    obtain ⟨k2, hk2⟩ := roundsOf (l3Length_ev y m (by omega))
    obtain ⟨DMN, hDM⟩ : ∃ D, D = dimA y m := ⟨_, rfl⟩
    rw [← hDM] at hk2 hdim
    have HK1 := am_ hk1
    have HK2 := am_ hk2
    have HSD := am_ (fun p (hp : 0 ≤ p ∧ p ≤ 2) => specDay_ev y m (DMN - p) (by omega) (by omega) (by omega))
    have HXB := am_ (show ∀ p : Int, 0 ≤ p ∧ p ≤ 2 → -1000 ≤ dbyA y + cumA y m + (DMN - p) - 1 ∧ dbyA y + cumA y m + (DMN - p) - 1 ≤ 40000 from fun p hp => by omega)
    clear hk1 hk2 hDM HDT
    go_wp2_with fail
    refine (spec_l3Date.calls k1 x y m d _ HK1.out).mono ?_
    rintro e w3 ⟨rfl, hb⟩
    have k_ := am_ (Dr.bel (by repeat first | exact HD.out | apply Dr.alloc | apply Dr.drewN | apply Dr.drew) hb)
    clear hb HD HB
    have HD := k_
    clear k_
    have HB := am_ HD.out.below
    go_wp2_with fail
    have GA := am_ (show wa.heap.size ≤ w3.heap.size from HD.out.size)
    have NG := am_ (show g ≠ w3.heap.size from Nat.ne_of_lt (Cur.lt HD.out.cur))
    obtain ⟨W1, hW1⟩ : ∃ W1, W1 = w3.alloc (.cells #[.int .i64 y, .int .i64 m, .int .i64 d] 98) := ⟨_, rfl⟩
    have BK := am_ (show W1.heap[w3.heap.size]? = some (.cells #[.int .i64 y, .int .i64 m, .int .i64 d] 98 (0, 0)) from by rw [hW1]; exact blk_new w3 _)
    have k_ := am_ (show Dr w wa W1 g code _ from by rw [hW1]; exact Dr.alloc HD.out _)
    rw [← hW1]
    clear hW1 HD HB
    have HD := k_
    clear k_
    have HB := am_ HD.out.below
    generalize w3.heap.size = G at BK GA NG ⊢
    refine (spec_l3Length.calls k2 y m DMN _ HK2.out).mono ?_
    rintro e w4 ⟨rfl, hb0⟩
    have hb := db_ hb0
    clear hb0
    have BK2 := am_ (blk_below BK.out hb)
    have k_ := am_ (Dr.bel HD.out hb)
    clear hb HD HB BK
    have HD := k_
    have BK := BK2
    clear k_ BK2
    have HB := am_ HD.out.below
    go_wp2_with fail
    refine (pick_c 3 (by decide) g code _ w _ HD.out.cur HB.out (by omega)).mono ?_
    rintro e w5 ⟨p, rfl, ⟨p0, p1⟩, hd⟩
    have p2 := p1 (by decide)
    clear p1
    have BK2 := am_ (hd.2.2.blk (g' := G) (o := .cells #[.int .i64 y, .int .i64 m, .int .i64 d] 98 (0, 0)) BK.out NG.out.symm (by simp))
    have k_ := am_ (Dr.trans HD.out hd)
    clear hd HD HB BK
    have HD := k_
    have BK := BK2
    clear k_ BK2
    have HB := am_ HD.out.below
    have yk2 := (blk_cell BK.out 2).trans rfl
    have fk2 := blk_frozen BK.out 2
    go_upto_region 5 with (fail)
    clear yk2 fk2
    have BK2 := am_ (blk_put BK.out 2 (.int .i64 (DMN - p)) rfl)
    have k_ := am_ (Dr.set HD.out GA.out (below_size HB0.out) NG.out 2 (.int .i64 (DMN - p)))
    clear HD HB BK
    have HD := k_
    have BK := BK2
    clear k_ BK2
    have HB := am_ HD.out.below
    generalize w5.setCell ⟨G, 2, none⟩ (.int .i64 (DMN - p)) = w6 at HD HB BK ⊢
    have yk0 := (blk_cell BK.out 0).trans rfl
    have yk1 := (blk_cell BK.out 1).trans rfl
    have yk2 := (blk_cell BK.out 2).trans rfl
    obtain ⟨k3, hk3⟩ := roundsOf (HSD.out p ⟨p0, by omega⟩)
    have HK3 := am_ hk3
    have HXP := am_ (HXB.out p ⟨p0, by omega⟩)
    clear hk3
    go_wp2_with fail
    refine (spec_l3Day.calls k3 y m (DMN - p) _ _ HK3.out).mono ?_
    rintro e w7 ⟨rfl, hb⟩
    have k_ := am_ (Dr.bel HD.out hb)
    clear hb HD HB
    have HD := k_
    clear k_
    have HB := am_ HD.out.below
    go_wp2
    go_ret
    exact ⟨_, rfl, HXP.out, HD.out.more (by omega)⟩
theorem results_tmp4 {fn : Func} {t u v x : Tmp} (h : fn.results = #[.tmp t, .tmp u, .tmp v, .tmp x]) (tmps : Array Value) (P : Program) (w : World) : (results fn tmps).run P w = .ok (.tuple #[tmps.getD t undef, tmps.getD u undef, tmps.getD v undef, tmps.getD x undef]) w := by
  simp [results, h]
theorem end_in (ls : List Int) (h : ls.all (fun x => decide (-10 ≤ x ∧ x ≤ 2000)) = true) : ∀ x ∈ ls, -10 ≤ x ∧ x ≤ 2000 := fun x hx => of_decide_eq_true (List.all_eq_true.mp h x hx)
set_option maxHeartbeats 16000000 in
set_option maxRecDepth 100000 in
theorem drawReg_c (A : Option Addr) (c : Nat) (code : List Int) (w : World) (hr : (Kd.int .u8).C w A code.length code) (hx : ∀ x ∈ code, 0 ≤ x ∧ x ≤ 255) :
    Calls Try.prog 47 #[.slice A code.length c] w fun e w' => ∃ a b m bk, e = .returned (.tuple #[.int .i64 a, .int .i64 b, .int .i64 m, .bool bk]) ∧ Below w.heap.size w w' := by
  have HC := am_ (fun hb => Cur.new (w0 := w) (w := w) (c := c) hb hr hx)
  clear hr hx
  go_enter Try.func47, Try.ntmps47
  go_wp2_with fail
  have HC1 := am_ (HC.out (Below.refl _ _))
  have HB1 := am_ (ba_ (Below.refl w.heap.size w) (.cells #[.slice A code.length c, .int .i64 0, .int .u64 0] 91))
  clear HC
  obtain ⟨wa, hwa⟩ : ∃ W, W = w.alloc (.cells #[.slice A code.length c, .int .i64 0, .int .u64 0] 91) := ⟨_, rfl⟩
  rw [← hwa] at HC1 HB1 ⊢
  clear hwa
  generalize w.heap.size = g at HC1 ⊢
  refine (near4_c g code 0 w _ HC1.out HB1.out (by omega)).mono ?_
  rintro e w2 ⟨a, rfl, ha, hd⟩
  have a0 := ha.1
  have a1 := ha.2
  have HD := am_ hd
  have HB := am_ hd.below
  clear hd ha HC1 HB1
  go_wp2_with fail
  refine (among_c [1, 20, 31, 59, 90, 200, 365, 366, 1200, 0, -5] _ 11 11 (by decide) g code _ w _ (HD.out.alloc _).cur (ba_ HB.out _) (by omega) (blk_new _ _)).mono ?_
  rintro e w3 ⟨x, rfl, hx, hd⟩
  have hxb := end_in [1, 20, 31, 59, 90, 200, 365, 366, 1200, 0, -5] (by decide) x hx
  have x0 := hxb.1
  have x1 := hxb.2
  clear hx hxb
  have k_ := am_ (Dr.trans (Dr.alloc HD.out _) hd)
  clear hd HD HB
  have HD := k_
  clear k_
  have HB := am_ HD.out.below
  go_wp2_with fail
  refine (one_c 12 (by decide) g code _ w _ HD.out.cur HB.out (by omega)).mono ?_
  rintro e w4 ⟨bb, rfl, hd⟩
  have k_ := am_ (Dr.trans (by repeat first | exact HD.out | apply Dr.alloc | apply Dr.drewN | apply Dr.drew) hd)
  clear hd HD HB
  have HD := k_
  clear k_
  have HB := am_ HD.out.below
  cases bb with
  | false =>
    go_wp2_with fail
    refine (pick_c 9 (by decide) g code _ w _ (HD.out.alloc _).cur (ba_ HB.out _) (by omega)).mono ?_
    rintro e w6 ⟨v, rfl, ⟨v0, v1⟩, hd⟩
    have HBK := am_ (hd.2.2.blk (g' := w4.heap.size) (o := .cells (numsA [1, 1, 2, 3, 6, 12, 120, 0, 121]) 3 (0, 0)) (blk_new w4 _) (Nat.ne_of_gt (Cur.lt HD.out.cur)) (by simp))
    have v2 := v1 (by decide)
    clear v1
    have k_ := am_ (Dr.trans (by repeat first | exact HD.out | apply Dr.alloc | apply Dr.drewN | apply Dr.drew) hd)
    clear hd HD HB
    have HD := k_
    clear k_
    have HB := am_ HD.out.below
    generalize w4.heap.size = b at HBK ⊢
    by_cases c0 : v < 4
    · have q1 : v.tdiv 4 = 0 := by rw [Int.tdiv_eq_ediv_of_nonneg v0]; omega
      have q2 : v / 4 = 0 := by omega
      go_wp2_with fail
      refine (among_c [1, 1, 2, 3, 6, 12, 120, 0, 121] b 7 9 (by decide) g code _ w _ HD.out.cur HB.out (by omega) HBK.out).mono ?_
      rintro e w7 ⟨m, rfl, _, hd⟩
      clear q1 q2 v0 v2
      have k_ := am_ (Dr.trans (by repeat first | exact HD.out | apply Dr.alloc | apply Dr.drewN | apply Dr.drew) hd)
      clear hd HD HB
      have HD := k_
      clear k_
      have HB := am_ HD.out.below
      clear HBK
      go_wp2_with fail
      refine (one_c 2 (by decide) g code _ w _ HD.out.cur HB.out (by omega)).mono ?_
      rintro e w8 ⟨bk, rfl, hd⟩
      have k_ := am_ (Dr.trans (by repeat first | exact HD.out | apply Dr.alloc | apply Dr.drewN | apply Dr.drew) hd)
      clear hd HD HB
      have HD := k_
      clear k_
      have HB := am_ HD.out.below
      go_wp2
      refine bodyPost_ret (results_tmp4 rfl _ _ _) rfl ?_
      exact ⟨a, a + x, m, bk, rfl, (by repeat first | (with_reducible first | exact HB.out | apply ba_ | apply bn_ | apply bd_) | exact HB.out)⟩
    by_cases c1 : v < 8
    · have q1 : v.tdiv 4 = 1 := by rw [Int.tdiv_eq_ediv_of_nonneg v0]; omega
      have q2 : v / 4 = 1 := by omega
      go_wp2_with fail
      refine (among_c [1, 1, 2, 3, 6, 12, 120, 0, 121] b 8 9 (by decide) g code _ w _ HD.out.cur HB.out (by omega) HBK.out).mono ?_
      rintro e w7 ⟨m, rfl, _, hd⟩
      clear q1 q2 v0 v2
      have k_ := am_ (Dr.trans (by repeat first | exact HD.out | apply Dr.alloc | apply Dr.drewN | apply Dr.drew) hd)
      clear hd HD HB
      have HD := k_
      clear k_
      have HB := am_ HD.out.below
      clear HBK
      go_wp2_with fail
      refine (one_c 2 (by decide) g code _ w _ HD.out.cur HB.out (by omega)).mono ?_
      rintro e w8 ⟨bk, rfl, hd⟩
      have k_ := am_ (Dr.trans (by repeat first | exact HD.out | apply Dr.alloc | apply Dr.drewN | apply Dr.drew) hd)
      clear hd HD HB
      have HD := k_
      clear k_
      have HB := am_ HD.out.below
      go_wp2
      refine bodyPost_ret (results_tmp4 rfl _ _ _) rfl ?_
      exact ⟨a, a + x, m, bk, rfl, (by repeat first | (with_reducible first | exact HB.out | apply ba_ | apply bn_ | apply bd_) | exact HB.out)⟩
    · have q1 : v.tdiv 4 = 2 := by rw [Int.tdiv_eq_ediv_of_nonneg v0]; omega
      have q2 : v / 4 = 2 := by omega
      go_wp2_with fail
      refine (among_c [1, 1, 2, 3, 6, 12, 120, 0, 121] b 9 9 (by decide) g code _ w _ HD.out.cur HB.out (by omega) HBK.out).mono ?_
      rintro e w7 ⟨m, rfl, _, hd⟩
      clear q1 q2 v0 v2
      have k_ := am_ (Dr.trans (by repeat first | exact HD.out | apply Dr.alloc | apply Dr.drewN | apply Dr.drew) hd)
      clear hd HD HB
      have HD := k_
      clear k_
      have HB := am_ HD.out.below
      clear HBK
      go_wp2_with fail
      refine (one_c 2 (by decide) g code _ w _ HD.out.cur HB.out (by omega)).mono ?_
      rintro e w8 ⟨bk, rfl, hd⟩
      have k_ := am_ (Dr.trans (by repeat first | exact HD.out | apply Dr.alloc | apply Dr.drewN | apply Dr.drew) hd)
      clear hd HD HB
      have HD := k_
      clear k_
      have HB := am_ HD.out.below
      go_wp2
      refine bodyPost_ret (results_tmp4 rfl _ _ _) rfl ?_
      exact ⟨a, a + x, m, bk, rfl, (by repeat first | (with_reducible first | exact HB.out | apply ba_ | apply bn_ | apply bd_) | exact HB.out)⟩
  | true =>
    go_wp2_with fail
    refine (near4_c g code _ w _ HD.out.cur HB.out (by omega)).mono ?_
    rintro e w5 ⟨bq, rfl, hbb, hd⟩
    clear hbb
    have k_ := am_ (Dr.trans (by repeat first | exact HD.out | apply Dr.alloc | apply Dr.drewN | apply Dr.drew) hd)
    clear hd HD HB
    have HD := k_
    clear k_
    have HB := am_ HD.out.below
    go_wp2_with fail
    refine (pick_c 9 (by decide) g code _ w _ (HD.out.alloc _).cur (ba_ HB.out _) (by omega)).mono ?_
    rintro e w6 ⟨v, rfl, ⟨v0, v1⟩, hd⟩
    have HBK := am_ (hd.2.2.blk (g' := w5.heap.size) (o := .cells (numsA [1, 1, 2, 3, 6, 12, 120, 0, 121]) 3 (0, 0)) (blk_new w5 _) (Nat.ne_of_gt (Cur.lt HD.out.cur)) (by simp))
    have v2 := v1 (by decide)
    clear v1
    have k_ := am_ (Dr.trans (by repeat first | exact HD.out | apply Dr.alloc | apply Dr.drewN | apply Dr.drew) hd)
    clear hd HD HB
    have HD := k_
    clear k_
    have HB := am_ HD.out.below
    generalize w5.heap.size = b at HBK ⊢
    by_cases c0 : v < 4
    · have q1 : v.tdiv 4 = 0 := by rw [Int.tdiv_eq_ediv_of_nonneg v0]; omega
      have q2 : v / 4 = 0 := by omega
      go_wp2_with fail
      refine (among_c [1, 1, 2, 3, 6, 12, 120, 0, 121] b 7 9 (by decide) g code _ w _ HD.out.cur HB.out (by omega) HBK.out).mono ?_
      rintro e w7 ⟨m, rfl, _, hd⟩
      clear q1 q2 v0 v2
      have k_ := am_ (Dr.trans (by repeat first | exact HD.out | apply Dr.alloc | apply Dr.drewN | apply Dr.drew) hd)
      clear hd HD HB
      have HD := k_
      clear k_
      have HB := am_ HD.out.below
      clear HBK
      go_wp2_with fail
      refine (one_c 2 (by decide) g code _ w _ HD.out.cur HB.out (by omega)).mono ?_
      rintro e w8 ⟨bk, rfl, hd⟩
      have k_ := am_ (Dr.trans (by repeat first | exact HD.out | apply Dr.alloc | apply Dr.drewN | apply Dr.drew) hd)
      clear hd HD HB
      have HD := k_
      clear k_
      have HB := am_ HD.out.below
      go_wp2
      refine bodyPost_ret (results_tmp4 rfl _ _ _) rfl ?_
      exact ⟨a, bq, m, bk, rfl, (by repeat first | (with_reducible first | exact HB.out | apply ba_ | apply bn_ | apply bd_) | exact HB.out)⟩
    by_cases c1 : v < 8
    · have q1 : v.tdiv 4 = 1 := by rw [Int.tdiv_eq_ediv_of_nonneg v0]; omega
      have q2 : v / 4 = 1 := by omega
      go_wp2_with fail
      refine (among_c [1, 1, 2, 3, 6, 12, 120, 0, 121] b 8 9 (by decide) g code _ w _ HD.out.cur HB.out (by omega) HBK.out).mono ?_
      rintro e w7 ⟨m, rfl, _, hd⟩
      clear q1 q2 v0 v2
      have k_ := am_ (Dr.trans (by repeat first | exact HD.out | apply Dr.alloc | apply Dr.drewN | apply Dr.drew) hd)
      clear hd HD HB
      have HD := k_
      clear k_
      have HB := am_ HD.out.below
      clear HBK
      go_wp2_with fail
      refine (one_c 2 (by decide) g code _ w _ HD.out.cur HB.out (by omega)).mono ?_
      rintro e w8 ⟨bk, rfl, hd⟩
      have k_ := am_ (Dr.trans (by repeat first | exact HD.out | apply Dr.alloc | apply Dr.drewN | apply Dr.drew) hd)
      clear hd HD HB
      have HD := k_
      clear k_
      have HB := am_ HD.out.below
      go_wp2
      refine bodyPost_ret (results_tmp4 rfl _ _ _) rfl ?_
      exact ⟨a, bq, m, bk, rfl, (by repeat first | (with_reducible first | exact HB.out | apply ba_ | apply bn_ | apply bd_) | exact HB.out)⟩
    · have q1 : v.tdiv 4 = 2 := by rw [Int.tdiv_eq_ediv_of_nonneg v0]; omega
      have q2 : v / 4 = 2 := by omega
      go_wp2_with fail
      refine (among_c [1, 1, 2, 3, 6, 12, 120, 0, 121] b 9 9 (by decide) g code _ w _ HD.out.cur HB.out (by omega) HBK.out).mono ?_
      rintro e w7 ⟨m, rfl, _, hd⟩
      clear q1 q2 v0 v2
      have k_ := am_ (Dr.trans (by repeat first | exact HD.out | apply Dr.alloc | apply Dr.drewN | apply Dr.drew) hd)
      clear hd HD HB
      have HD := k_
      clear k_
      have HB := am_ HD.out.below
      clear HBK
      go_wp2_with fail
      refine (one_c 2 (by decide) g code _ w _ HD.out.cur HB.out (by omega)).mono ?_
      rintro e w8 ⟨bk, rfl, hd⟩
      have k_ := am_ (Dr.trans (by repeat first | exact HD.out | apply Dr.alloc | apply Dr.drewN | apply Dr.drew) hd)
      clear hd HD HB
      have HD := k_
      clear k_
      have HB := am_ HD.out.below
      go_wp2
      refine bodyPost_ret (results_tmp4 rfl _ _ _) rfl ?_
      exact ⟨a, bq, m, bk, rfl, (by repeat first | (with_reducible first | exact HB.out | apply ba_ | apply bn_ | apply bd_) | exact HB.out)⟩
end Go.Proofs.Ytlmdghcpcohamaa.O
