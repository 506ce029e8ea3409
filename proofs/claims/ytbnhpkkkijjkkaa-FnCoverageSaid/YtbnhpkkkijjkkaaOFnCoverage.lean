/- The law FnCoverage walked: draws, both programs' turbo ranks, the coverage of each tranche's rank. No other condition. -/
import Derived.Test.YtbnhpkkkijjkkaaPureFnCoverage
import Derived.Shelf.SlicesQ.IndexFunc
import Derived.Shelf.SlLaysH0
import Derived.Test.YtbnhpkkkijjkkaaOFnCoveragea
import Derived.Test.YtbnhpkkkijjkkaaOFnCoverageb
import Derived.Test.YtbnhpkkkijjkkaaOFnCoveragec
namespace Go.Proofs.Ytbnhpkkkijjkkaa.O
open Go.RowKit Go.Proofs.YtbnhpkkkijjkkaaW.PrintWords Go.Proofs.YtbnhpkkkijjkkaaW.PrintLast Go.Proofs.YtbnhpkkkijjkkaaW.PrintMore Go.Proofs.Ytbnhpkkkijjkkaa.PL18C Go.Proofs.Ytbnhpkkkijjkkaa.EvKit Go.Proofs.Ytbnhpkkkijjkkaa.Pure
set_option linter.unusedVariables false
set_option linter.unusedSimpArgs false
attribute [local go_sem] max2_int min2_int max_two min_two max_three min_three max_four min_four
set_option maxHeartbeats 16000000 in
set_option maxRecDepth 100000 in
theorem law_c (A0 : Option Addr) (c0 : Nat) (l0 : List Int) (w : World) (hr0 : Kd.C (Kd.int .u8) w A0 l0.length l0) (hc0 : l0.length ≤ c0) (he0 : ∀ y ∈ l0, (0 ≤ y ∧ y ≤ 255)) :
    Calls Try.prog 8 #[.slice A0 l0.length c0] w fun e w' => e = .returned (.bool true) ∧ Below w.heap.size w w' := by
  have HR0 := am_ hr0
  have HC0 := am_ hc0
  have HE0 := am_ he0
  have HB := am_ (Below.refl w.heap.size w)
  clear hr0 hc0 he0
  by_cases hbig : (l0.length : Int) > 65536
  · have HV := am_ (show laws_vBig.f l0 = some true from congrArg some (decide_eq_true hbig))
    clear hbig
    go_enter Try.func8, Try.ntmps8
    go_wp2_with fail
    refine (laws_vBig.calls A0 c0 l0 true _ (by repeat first | exact (Kd.C_below HR0.out HB.out) | with_reducible refine ca_ ?_ _ | with_reducible refine cn_ ?_ _ | with_reducible refine cd_ ?_) HC0.out HV.out).mono ?_
    rintro e w1 ⟨rfl, hb0⟩
    have hb := db_ hb0
    clear hb0
    replace HB := am_ (below_step (by repeat first | (with_reducible first | exact HB.out | apply ba_ | apply bn_ | apply bd_) | exact HB.out) hb); clear hb
    go_wp2
    go_ret
    exact ⟨rfl, (by repeat first | (with_reducible first | exact HB.out | apply ba_ | apply bn_ | apply bd_) | exact HB.out)⟩
  have HV := am_ (show laws_vBig.f l0 = some false from congrArg some (decide_eq_false hbig))
  clear hbig
  go_enter Try.func8, Try.ntmps8
  go_wp2_with fail
  refine (laws_vBig.calls A0 c0 l0 false _ (by repeat first | exact (Kd.C_below HR0.out HB.out) | with_reducible refine ca_ ?_ _ | with_reducible refine cn_ ?_ _ | with_reducible refine cd_ ?_) HC0.out HV.out).mono ?_
  rintro e w1 ⟨rfl, hb0⟩
  have hb := db_ hb0
  clear hb0
  replace HB := am_ (below_step (by repeat first | (with_reducible first | exact HB.out | apply ba_ | apply bn_ | apply bd_) | exact HB.out) hb); clear hb
  go_wp2_with fail
  refine (drawTurbo_c A0 c0 l0 _ (by repeat first | exact (Kd.C_below HR0.out HB.out) | with_reducible refine ca_ ?_ _ | with_reducible refine cn_ ?_ _ | with_reducible refine cd_ ?_) HE0.out).mono ?_
  rintro e w2 ⟨v3, xs, cash, n, d, rfl, ho, hl, _, hb⟩
  have HO3 := am_ (Kd.R_lower ho (show w.heap.size ≤ _ from below_size (by repeat first | (with_reducible first | exact HB.out | apply ba_ | apply bn_ | apply bd_) | exact HB.out)))
  replace HB := am_ (below_step (by repeat first | (with_reducible first | exact HB.out | apply ba_ | apply bn_ | apply bd_) | exact HB.out) hb); clear hb
  clear ho
  obtain ⟨A3, c3, e3⟩ := Kd.R_slice HO3.out
  subst e3
  obtain ⟨kT, hT⟩ := roundsOf (specTur_ev xs cash n d (by omega))
  have hF := fun q => turA_facts (xs := xs) (cash := cash) (n := n) (d := d) q
  have HTI := am_ (fun W h => turI_c A3 c3 xs cash n d W h (R_cap HO3.out) (fun hp => R_head HO3.out hp) (by omega))
  obtain ⟨TA, hTA⟩ : ∃ T, T = turA xs cash n d := ⟨_, rfl⟩
  rw [← hTA] at hT hF HTI
  clear hTA
  obtain ⟨rk, ok⟩ := TA
  simp only at hF HTI
  have HT := am_ hT
  have HF := am_ hF
  clear hT hF
  go_upto_region 4 with (fail)
  obtain ⟨W1, hW1⟩ : ∃ W1, W1 = w2.alloc (.cells #[.int .i64 n, .int .i64 d] 35) := ⟨_, rfl⟩
  have BKg5 := am_ (show W1.heap[w2.heap.size]? = some (.cells #[.int .i64 n, .int .i64 d] 35 (0, 0)) from by rw [hW1]; exact blk_new w2 _)
  have n2 := am_ (show Below w.heap.size w W1 from by rw [hW1]; exact below_alloc HB.out _)
  have n3 := am_ (show Kd.R k49 49 W1 w.heap.size (fun _ => True) (.slice A3 xs.length c3) xs from by rw [hW1]; exact ra_ HO3.out _)
  rw [← hW1]
  clear hW1 HB HO3
  have HB := n2
  have HO3 := n3
  clear n2 n3
  generalize w2.heap.size = g5 at BKg5 ⊢
  have yg5_0 : W1.cell? ⟨g5, 0, none⟩ = some (.int .i64 n) := (blk_cell BKg5.out 0).trans rfl; have fg5_0 := blk_frozen BKg5.out 0; have yg5_1 : W1.cell? ⟨g5, 1, none⟩ = some (.int .i64 d) := (blk_cell BKg5.out 1).trans rfl; have fg5_1 := blk_frozen BKg5.out 1
  go_wp2_with fail
  clear yg5_0 fg5_0 yg5_1 fg5_1
  refine (HTI.out _ (by repeat first | exact (R_C HO3.out) | with_reducible refine ca_ ?_ _ | with_reducible refine cn_ ?_ _ | with_reducible refine cd_ ?_)).mono ?_
  rintro e w3 ⟨rfl, hb⟩
  replace HO3 := am_ (Kd.R_below (by (with_reducible repeat first | apply ra_ | apply rn_ | apply rd_); exact HO3.out) hb); replace BKg5 := am_ (blk_below (blk_below BKg5.out (by repeat first | exact Below.refl _ _ | apply ba_ | apply bn_ | apply bd_)) hb); replace HB := am_ (below_step (by repeat first | (with_reducible first | exact HB.out | apply ba_ | apply bn_ | apply bd_) | exact HB.out) hb); clear hb
  have yg5_0 : w3.cell? ⟨g5, 0, none⟩ = some (.int .i64 n) := (blk_cell BKg5.out 0).trans rfl; have fg5_0 := blk_frozen BKg5.out 0; have yg5_1 : w3.cell? ⟨g5, 1, none⟩ = some (.int .i64 d) := (blk_cell BKg5.out 1).trans rfl; have fg5_1 := blk_frozen BKg5.out 1
  go_wp2_with fail
  clear yg5_0 fg5_0 yg5_1 fg5_1
  refine (spec_TurboRank.calls kT A3 c3 xs cash n d rk ok _ (by repeat first | exact (R_C HO3.out) | with_reducible refine ca_ ?_ _ | with_reducible refine cn_ ?_ _ | with_reducible refine cd_ ?_) (R_cap HO3.out) HT.out).mono ?_
  rintro e w4 ⟨rfl, hb⟩
  replace HO3 := am_ (Kd.R_below (by (with_reducible repeat first | apply ra_ | apply rn_ | apply rd_); exact HO3.out) hb); replace BKg5 := am_ (blk_below (blk_below BKg5.out (by repeat first | exact Below.refl _ _ | apply ba_ | apply bn_ | apply bd_)) hb); replace HB := am_ (below_step (by repeat first | (with_reducible first | exact HB.out | apply ba_ | apply bn_ | apply bd_) | exact HB.out) hb); clear hb
  clear HTI HT
  cases ok with
  | false =>
    go_wp2
    go_ret
    exact ⟨rfl, (by repeat first | (with_reducible first | exact HB.out | apply ba_ | apply bn_ | apply bd_) | exact HB.out)⟩
  | true =>
    obtain ⟨g1, g2, g3⟩ := HF.out rfl
    have HG3 := am_ g3
    clear HF g1 g2 g3
    go_wp2_with fail
    go_loopw [10] (fun vo wr => ∃ i : Nat, vo = .int .i64 i ∧ Aside0 (i ≤ xs.length) ∧ Aside0 (Below w4.heap.size w4 wr)) (fun vo _ => xs.length - (intOf vo).toNat)
    case atStart => exact ⟨0, rfl, ⟨Nat.zero_le _⟩, ⟨(by repeat first | (with_reducible first | exact (Below.refl _ _) | apply ba_ | apply bn_ | apply bd_) | exact (Below.refl _ _))⟩⟩
    case round =>
      obtain ⟨i, rfl, HI, HL⟩ := hrel
      by_cases hi : i < xs.length
      · have c1 : decide (i < xs.length) = true := decide_eq_true hi
        obtain ⟨a, ha⟩ : ∃ a, a = xs[i] := ⟨_, rfl⟩
        obtain ⟨ad, e0, hx0, hx1⟩ := at_T49 (R_C HO3.out) (i : Int) (by omega) (by omega)
        rw [rdT_get hi, ← ha] at hx0 hx1
        simp only [Int.toNat_natCast] at hx0 hx1
        cases e0
        have CX := am_ hx0
        have hg := HG3.out a (by rw [ha]; exact List.getElem_mem hi)
        obtain ⟨kq, hq⟩ := roundsOf (implCovOf_ev xs cash a.f0 (by omega))
        obtain ⟨CA, hCA⟩ : ∃ C, C = covA xs cash a.f0 := ⟨_, rfl⟩
        rw [← hCA] at hq hg
        clear hCA ha hx0 hx1
        obtain ⟨fn, fd, fo⟩ := CA
        simp only at hg
        have HQ := am_ hq
        have HG := am_ hg
        clear hq hg
        have hii : (0 : Int) ≤ (i : Int) := by omega
        have hij : (i : Int) < (xs.length : Int) := by omega
        have ti : (i : Int).toNat = i := Int.toNat_natCast i
        have hx0 := (HL.out.cell (World.block_lt_of_cell? w4 _ CX.out)).trans CX.out
        go_wp2_with fail
        refine (impl_CoverageOf.calls kq (some ad) c3 xs cash a.f0 fn fd fo _ (by repeat first | exact (Kd.C_below (R_C HO3.out) HL.out) | with_reducible refine ca_ ?_ _ | with_reducible refine cn_ ?_ _ | with_reducible refine cd_ ?_) (R_cap HO3.out) HQ.out).mono ?_
        rintro e w5 ⟨rfl, hb⟩
        have n_ := am_ (below_step (show Below w4.heap.size w4 _ from (by repeat first | (with_reducible first | exact HL.out | apply ba_ | apply bn_ | apply bd_) | exact HL.out)) hb)
        clear HL hb hx0
        have HL := n_
        clear n_
        cases fo with
        | false =>
          go_wp2
          go_roundw
          case rel => exact ⟨i + 1, by go_num, ⟨by omega⟩, ⟨(by repeat first | (with_reducible first | exact HL.out | apply ba_ | apply bn_ | apply bd_) | exact HL.out)⟩⟩
          case measure => simp [intOf]; omega
        | true =>
          obtain ⟨kc, hc⟩ := roundsOf (specCmp_ev fn fd n d)
          have hg := HG.out _ rfl rfl
          obtain ⟨CR, hCR⟩ : ∃ C, C = cmpA fn fd n d := ⟨_, rfl⟩
          rw [← hCR] at hc hg
          clear hCR
          obtain ⟨c, told⟩ := CR
          simp only at hg
          have HC := am_ hc
          have HH := am_ hg
          clear hc hg HG
          go_upto_region 13 with (fail)
          obtain ⟨W2, hW2⟩ : ∃ W1, W1 = w5.alloc (.cells #[.int .i64 fn, .int .i64 fd] 35) := ⟨_, rfl⟩
          have BKg11 := am_ (show W2.heap[w5.heap.size]? = some (.cells #[.int .i64 fn, .int .i64 fd] 35 (0, 0)) from by rw [hW2]; exact blk_new w5 _)
          have n2 := am_ (show Below w4.heap.size w4 W2 from by rw [hW2]; exact below_alloc HL.out _)
          rw [← hW2]
          clear hW2 HL
          have HL := n2
          clear n2
          have m5 := am_ (blk_below BKg5.out HL.out)
          generalize w5.heap.size = g11 at BKg11 ⊢
          have y5_0 : W2.cell? ⟨g5, 0, none⟩ = some (.int .i64 n) := (blk_cell m5.out 0).trans rfl
          have y5_1 : W2.cell? ⟨g5, 1, none⟩ = some (.int .i64 d) := (blk_cell m5.out 1).trans rfl
          have yg11_0 : W2.cell? ⟨g11, 0, none⟩ = some (.int .i64 fn) := (blk_cell BKg11.out 0).trans rfl; have fg11_0 := blk_frozen BKg11.out 0; have yg11_1 : W2.cell? ⟨g11, 1, none⟩ = some (.int .i64 fd) := (blk_cell BKg11.out 1).trans rfl; have fg11_1 := blk_frozen BKg11.out 1
          go_wp2_with fail
          clear yg11_0 fg11_0 yg11_1 fg11_1
          clear y5_0 y5_1
          refine (spec_CompareFractions.calls kc fn fd n d c told _ HC.out).mono ?_
          rintro e w6 ⟨rfl, hb⟩
          have n_ := am_ (below_step (show Below w4.heap.size w4 _ from (by repeat first | (with_reducible first | exact HL.out | apply ba_ | apply bn_ | apply bd_) | exact HL.out)) hb)
          clear HL hb m5 BKg11
          have HL := n_
          clear n_
          have hx0 := (HL.out.cell (World.block_lt_of_cell? w4 _ CX.out)).trans CX.out
          cases told with
          | false =>
            go_wp2
            go_roundw
            case rel => exact ⟨i + 1, by go_num, ⟨by omega⟩, ⟨(by repeat first | (with_reducible first | exact HL.out | apply ba_ | apply bn_ | apply bd_) | exact HL.out)⟩⟩
            case measure => simp [intOf]; omega
          | true =>
            obtain ⟨h1, h2⟩ := HH.out
            by_cases hc : c < 0
            · have d1 : decide (c < 0) = true := decide_eq_true hc
              have d2 : decide (0 ≤ c) = false := decide_eq_false (by omega)
              obtain ⟨h3, h4⟩ := h1 hc
              have d3 : (rk == 0) = false := by simp [h3]
              have d4 : decide (rk = 0) = false := decide_eq_false h3
              have d5 : decide (a.f0 < rk) = false := decide_eq_false (by omega)
              by_cases he : a.f0 = rk
              · have d6 : (a.f0 == rk) = true := by simp [he]
                have d7 : decide (a.f0 = rk) = true := decide_eq_true he
                clear he h1 h2 h3 h4 hc
                go_wp2
                go_roundw
                case rel => exact ⟨i + 1, by go_num, ⟨by omega⟩, ⟨(by repeat first | (with_reducible first | exact HL.out | apply ba_ | apply bn_ | apply bd_) | exact HL.out)⟩⟩
                case measure => simp [intOf]; omega
              · have d6 : (a.f0 == rk) = false := by simp [he]
                have d7 : decide (a.f0 = rk) = false := decide_eq_false he
                clear he h1 h2 h3 h4 hc
                go_wp2
                go_roundw
                case rel => exact ⟨i + 1, by go_num, ⟨by omega⟩, ⟨(by repeat first | (with_reducible first | exact HL.out | apply ba_ | apply bn_ | apply bd_) | exact HL.out)⟩⟩
                case measure => simp [intOf]; omega
            · have d1 : decide (c < 0) = false := decide_eq_false hc
              have d2 : decide (0 ≤ c) = true := decide_eq_true (by omega)
              have he : ¬ a.f0 = rk := fun q => hc (h2 q)
              have d6 : (a.f0 == rk) = false := by simp [he]
              have d7 : decide (a.f0 = rk) = false := decide_eq_false he
              clear he h1 h2 hc
              go_wp2
              go_roundw
              case rel => exact ⟨i + 1, by go_num, ⟨by omega⟩, ⟨(by repeat first | (with_reducible first | exact HL.out | apply ba_ | apply bn_ | apply bd_) | exact HL.out)⟩⟩
              case measure => simp [intOf]; omega
      · have c1 : decide (i < xs.length) = false := decide_eq_false hi
        clear hi
        go_wp2
        go_ret
        exact ⟨rfl, below_step ((by repeat first | (with_reducible first | exact HB.out | apply ba_ | apply bn_ | apply bd_) | exact HB.out)) ((by repeat first | (with_reducible first | exact HL.out | apply ba_ | apply bn_ | apply bd_) | exact HL.out))⟩
end Go.Proofs.Ytbnhpkkkijjkkaa.O
