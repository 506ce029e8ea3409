/- The law FnWaterfall walked: draws, both programs' waterfalls, losses and rates, and what holds of them. No other condition. -/
import Derived.Test.YtbnhpkkkijjkkaaPureFnWaterfall
import Derived.Shelf.Slices.Clone
import Derived.Shelf.Slices.Turned
import Derived.Sort.LotA
import Derived.Shelf.SlSortCmp.Insertion1
import Derived.Shelf.Slices.Reverse
import Derived.Shelf.Lays2
import Derived.Shelf.Lays
import Derived.Shelf.SlLaysF
import Derived.Test.YtbnhpkkkijjkkaaOFnWaterfalla
import Derived.Test.YtbnhpkkkijjkkaaOFnWaterfallb
import Derived.Test.YtbnhpkkkijjkkaaOFnWaterfallc
import Derived.Test.YtbnhpkkkijjkkaaOFnWaterfalld
import Derived.Test.YtbnhpkkkijjkkaaOFnWaterfalle
import Derived.Test.YtbnhpkkkijjkkaaOFnWaterfallf
import Derived.Test.YtbnhpkkkijjkkaaOFnWaterfallg
namespace Go.Proofs.Ytbnhpkkkijjkkaa.O
open Go.RowKit Go.Proofs.YtbnhpkkkijjkkaaW.PrintWords Go.Proofs.YtbnhpkkkijjkkaaW.PrintLast Go.Proofs.YtbnhpkkkijjkkaaW.PrintMore Go.Proofs.Ytbnhpkkkijjkkaa.PL18D Go.Proofs.Ytbnhpkkkijjkkaa.EvKit Go.Proofs.Ytbnhpkkkijjkkaa.Pure
set_option linter.unusedVariables false
set_option linter.unusedSimpArgs false
attribute [local go_sem] max2_int min2_int max_two min_two max_three min_three max_four min_four
set_option maxHeartbeats 16000000 in
set_option maxRecDepth 100000 in
theorem law_c (A0 : Option Addr) (c0 : Nat) (l0 : List Int) (w : World) (hr0 : Kd.C (Kd.int .u8) w A0 l0.length l0) (hc0 : l0.length ≤ c0) (he0 : ∀ y ∈ l0, (0 ≤ y ∧ y ≤ 255)) :
    Calls Try.prog 11 #[.slice A0 l0.length c0] w fun e w' => e = .returned (.bool true) ∧ Below w.heap.size w w' := by
  have HR0 := am_ hr0
  have HC0 := am_ hc0
  have HE0 := am_ he0
  have HB := am_ (Below.refl w.heap.size w)
  clear hr0 hc0 he0
  by_cases hbig : (l0.length : Int) > 65536
  · have HV := am_ (show laws_vBig.f l0 = some true from congrArg some (decide_eq_true hbig))
    clear hbig
    go_enter Try.func11, Try.ntmps11
    go_wp2_with fail
    refine (laws_vBig.calls A0 c0 l0 true _ (by repeat first | exact (Kd.C_below HR0.out HB.out) | with_reducible refine ca_ ?_ _ | with_reducible refine cn_ ?_ _ | with_reducible refine cd_ ?_) HC0.out HV.out).mono ?_
    rintro e w1 ⟨rfl, hb0⟩
    have hb := db_ hb0
    clear hb0
    replace HB := am_ (below_step (by repeat first | (with_reducible first | exact HB.out | apply ba_ | apply bn_ | apply bd_) | exact HB.out) hb); clear hb
    go_wp2
    go_ret
    exact ⟨rfl, (by repeat first | (with_reducible first | exact HB.out | apply ba_ | apply bn_ | apply bd_) | exact HB.out)⟩
  have HV := am_ (show laws_vBig.f l0 = some false from congrArg some (decide_eq_false hbig))
  clear hbig
  go_enter Try.func11, Try.ntmps11
  go_wp2_with fail
  refine (laws_vBig.calls A0 c0 l0 false _ (by repeat first | exact (Kd.C_below HR0.out HB.out) | with_reducible refine ca_ ?_ _ | with_reducible refine cn_ ?_ _ | with_reducible refine cd_ ?_) HC0.out HV.out).mono ?_
  rintro e w1 ⟨rfl, hb0⟩
  have hb := db_ hb0
  clear hb0
  replace HB := am_ (below_step (by repeat first | (with_reducible first | exact HB.out | apply ba_ | apply bn_ | apply bd_) | exact HB.out) hb); clear hb
  go_wp2_with fail
  refine (drawDist_c A0 c0 l0 _ (by repeat first | exact (Kd.C_below HR0.out HB.out) | with_reducible refine ca_ ?_ _ | with_reducible refine cn_ ?_ _ | with_reducible refine cd_ ?_) HE0.out).mono ?_
  rintro e w2 ⟨v3, xs, cash, rfl, ho, hl, hcb, hb⟩
  have HO3 := am_ (Kd.R_lower ho (show w.heap.size ≤ _ from below_size (by repeat first | (with_reducible first | exact HB.out | apply ba_ | apply bn_ | apply bd_) | exact HB.out)))
  replace HB := am_ (below_step (by repeat first | (with_reducible first | exact HB.out | apply ba_ | apply bn_ | apply bd_) | exact HB.out) hb); clear hb
  clear ho
  obtain ⟨A3, c3, e3⟩ := Kd.R_slice HO3.out
  subst e3
  have HDI := am_ (fun W h => distI_c A3 c3 xs cash W h (R_cap HO3.out) (by omega))
  have HDS := am_ (fun W h => distS_c A3 c3 xs cash W h (R_cap HO3.out) (by omega))
  have HAI := am_ (fun W h => allocI_c A3 c3 xs cash W h (R_cap HO3.out) (by omega))
  have HRI := am_ (fun W h => recI_c A3 c3 xs cash W h (R_cap HO3.out) (by omega))
  obtain ⟨DA, hDA⟩ : ∃ D, D = distA ranksL xs cash := ⟨_, rfl⟩
  have hok := fun q : (distA ranksL xs cash).2.2 = true => distA_ok q
  have hfa := fun g hc => dist_facts (xs := xs) (c := cash) g hc
  have hno : (distA ranksL xs cash).1.length ≤ 1048576 := distA_len ranksL xs cash (by omega)
  have hra : recA xs cash = if DA.2.2 = true then (recL DA.1 xs, true) else ([], false) := by rw [hDA]; rfl
  rw [← hDA] at HDI HDS hok hfa hno
  clear hDA
  obtain ⟨ps, lf, so⟩ := DA
  simp only at HDI HDS hok hra hfa hno
  obtain ⟨kE, hE⟩ := roundsOf (vInts_ev ps (by omega))
  have HE := am_ hE
  clear hE hno
  go_wp2_with fail
  refine (HDI.out _ (by repeat first | exact (R_C HO3.out) | with_reducible refine ca_ ?_ _ | with_reducible refine cn_ ?_ _ | with_reducible refine cd_ ?_)).mono ?_
  rintro e w3 ⟨v5, rfl, ho, hb⟩
  have HO5 := am_ (Kd.R_lower ho (show w.heap.size ≤ _ from below_size (by repeat first | (with_reducible first | exact HB.out | apply ba_ | apply bn_ | apply bd_) | exact HB.out)))
  replace HO3 := am_ (Kd.R_below (by (with_reducible repeat first | apply ra_ | apply rn_ | apply rd_); exact HO3.out) hb); replace HB := am_ (below_step (by repeat first | (with_reducible first | exact HB.out | apply ba_ | apply bn_ | apply bd_) | exact HB.out) hb); clear hb
  clear ho
  go_wp2_with fail
  refine (HDS.out _ (by repeat first | exact (R_C HO3.out) | with_reducible refine ca_ ?_ _ | with_reducible refine cn_ ?_ _ | with_reducible refine cd_ ?_)).mono ?_
  rintro e w4 ⟨v8, rfl, ho, hb⟩
  have HO8 := am_ (Kd.R_lower ho (show w.heap.size ≤ _ from below_size (by repeat first | (with_reducible first | exact HB.out | apply ba_ | apply bn_ | apply bd_) | exact HB.out)))
  replace HO3 := am_ (Kd.R_below (by (with_reducible repeat first | apply ra_ | apply rn_ | apply rd_); exact HO3.out) hb); replace HO5 := am_ (Kd.R_below (by (with_reducible repeat first | apply ra_ | apply rn_ | apply rd_); exact HO5.out) hb); replace HB := am_ (below_step (by repeat first | (with_reducible first | exact HB.out | apply ba_ | apply bn_ | apply bd_) | exact HB.out) hb); clear hb
  clear ho HDI HDS
  obtain ⟨A5, c5, e5⟩ := Kd.R_slice HO5.out
  subst e5
  obtain ⟨A8, c8, e8⟩ := Kd.R_slice HO8.out
  subst e8
  cases so with
  | false =>
    clear hok hfa hra
    go_wp2_with fail
    refine (laws_vInts.calls kE A5 c5 ps A8 c8 ps true _ (by repeat first | exact (R_C HO5.out) | with_reducible refine ca_ ?_ _ | with_reducible refine cn_ ?_ _ | with_reducible refine cd_ ?_) (R_cap HO5.out) (by repeat first | exact (R_C HO8.out) | with_reducible refine ca_ ?_ _ | with_reducible refine cn_ ?_ _ | with_reducible refine cd_ ?_) (R_cap HO8.out) HE.out).mono ?_
    rintro e w5 ⟨rfl, hb0⟩
    have hb := db_ hb0
    clear hb0
    replace HO3 := am_ (Kd.R_below (by (with_reducible repeat first | apply ra_ | apply rn_ | apply rd_); exact HO3.out) hb); replace HO5 := am_ (Kd.R_below (by (with_reducible repeat first | apply ra_ | apply rn_ | apply rd_); exact HO5.out) hb); replace HO8 := am_ (Kd.R_below (by (with_reducible repeat first | apply ra_ | apply rn_ | apply rd_); exact HO8.out) hb); replace HB := am_ (below_step (by repeat first | (with_reducible first | exact HB.out | apply ba_ | apply bn_ | apply bd_) | exact HB.out) hb); clear hb
    go_wp2_with fail
    refine (laws_vInts.calls kE A5 c5 ps A8 c8 ps true _ (by repeat first | exact (R_C HO5.out) | with_reducible refine ca_ ?_ _ | with_reducible refine cn_ ?_ _ | with_reducible refine cd_ ?_) (R_cap HO5.out) (by repeat first | exact (R_C HO8.out) | with_reducible refine ca_ ?_ _ | with_reducible refine cn_ ?_ _ | with_reducible refine cd_ ?_) (R_cap HO8.out) HE.out).mono ?_
    rintro e w6 ⟨rfl, hb0⟩
    have hb := db_ hb0
    clear hb0
    replace HO3 := am_ (Kd.R_below (by (with_reducible repeat first | apply ra_ | apply rn_ | apply rd_); exact HO3.out) hb); replace HO5 := am_ (Kd.R_below (by (with_reducible repeat first | apply ra_ | apply rn_ | apply rd_); exact HO5.out) hb); replace HO8 := am_ (Kd.R_below (by (with_reducible repeat first | apply ra_ | apply rn_ | apply rd_); exact HO8.out) hb); replace HB := am_ (below_step (by repeat first | (with_reducible first | exact HB.out | apply ba_ | apply bn_ | apply bd_) | exact HB.out) hb); clear hb
    go_wp2
    go_ret
    exact ⟨rfl, (by repeat first | (with_reducible first | exact HB.out | apply ba_ | apply bn_ | apply bd_) | exact HB.out)⟩
  | true =>
    obtain ⟨hpb, hpl, hgt, hcr⟩ := hok rfl
    have hsv := hfa hgt hcr
    have HRA := am_ (show recA xs cash = (recL ps xs, true) from hra)
    have HSV := am_ hsv
    have hsum := hsv.sum
    have HPL := am_ hpl
    have HGT := am_ hgt
    have HCR := am_ hcr
    have hn20 := (good_parts hgt).2
    have hlf := hsv.bd
    obtain ⟨kS, hS⟩ := roundsOf (rSum_ev ps (by omega) (srv_pos hsv) (by omega))
    have HS := am_ hS
    have hsm : 0 ≤ sumI ps := sumI_nonneg ps (srv_pos hsv)
    have hsa : wrap64 (sumI ps + lf) = cash := by rw [wrapId (by omega)]; exact hsum
    clear hok hfa hra hpb hpl hgt hcr hsv hS
    go_wp2_with fail
    refine (laws_vInts.calls kE A5 c5 ps A8 c8 ps true _ (by repeat first | exact (R_C HO5.out) | with_reducible refine ca_ ?_ _ | with_reducible refine cn_ ?_ _ | with_reducible refine cd_ ?_) (R_cap HO5.out) (by repeat first | exact (R_C HO8.out) | with_reducible refine ca_ ?_ _ | with_reducible refine cn_ ?_ _ | with_reducible refine cd_ ?_) (R_cap HO8.out) HE.out).mono ?_
    rintro e w5 ⟨rfl, hb0⟩
    have hb := db_ hb0
    clear hb0
    replace HO3 := am_ (Kd.R_below (by (with_reducible repeat first | apply ra_ | apply rn_ | apply rd_); exact HO3.out) hb); replace HO5 := am_ (Kd.R_below (by (with_reducible repeat first | apply ra_ | apply rn_ | apply rd_); exact HO5.out) hb); replace HO8 := am_ (Kd.R_below (by (with_reducible repeat first | apply ra_ | apply rn_ | apply rd_); exact HO8.out) hb); replace HB := am_ (below_step (by repeat first | (with_reducible first | exact HB.out | apply ba_ | apply bn_ | apply bd_) | exact HB.out) hb); clear hb
    clear HO8
    go_wp2_with fail
    refine (laws_rSum.calls kS A5 c5 ps (sumI ps) _ (by repeat first | exact (R_C HO5.out) | with_reducible refine ca_ ?_ _ | with_reducible refine cn_ ?_ _ | with_reducible refine cd_ ?_) (R_cap HO5.out) HS.out).mono ?_
    rintro e w6 ⟨rfl, hb0⟩
    have hb := db_ hb0
    clear hb0
    replace HO3 := am_ (Kd.R_below (by (with_reducible repeat first | apply ra_ | apply rn_ | apply rd_); exact HO3.out) hb); replace HO5 := am_ (Kd.R_below (by (with_reducible repeat first | apply ra_ | apply rn_ | apply rd_); exact HO5.out) hb); replace HB := am_ (below_step (by repeat first | (with_reducible first | exact HB.out | apply ba_ | apply bn_ | apply bd_) | exact HB.out) hb); clear hb
    go_wp2_with fail
    go_loopw [11] (fun vo wr => ∃ i : Nat, vo = .int .i64 i ∧ Aside0 (i ≤ xs.length) ∧ Aside0 (Below w6.heap.size w6 wr)) (fun vo _ => xs.length - (intOf vo).toNat)
    case atStart => exact ⟨0, rfl, ⟨Nat.zero_le _⟩, ⟨(by repeat first | (with_reducible first | exact (Below.refl _ _) | apply ba_ | apply bn_ | apply bd_) | exact (Below.refl _ _))⟩⟩
    case round =>
      obtain ⟨i, rfl, HI, HL⟩ := hrel
      by_cases hi : i < xs.length
      · have c1 : decide (i < xs.length) = true := decide_eq_true hi
        obtain ⟨b5, e5⟩ := R_head HO5.out (by have := HPL.out; omega)
        subst e5
        have hpn := HPL.out
        obtain ⟨a, ha⟩ : ∃ a, a = xs[i] := ⟨_, rfl⟩
        obtain ⟨p, hp⟩ : ∃ p, p = rdN ps i := ⟨_, rfl⟩
        have hag : xs[i]? = some a := by rw [ha]; exact lt_of_get hi
        obtain ⟨adX, e0, hx0, hx1⟩ := at_T49 (R_C HO3.out) (i : Int) (by omega) (by omega)
        rw [rdT_get hi, ← ha] at hx0 hx1
        simp only [Int.toNat_natCast] at hx0 hx1
        cases e0
        have hy : w6.cell? ⟨b5, i, none⟩ = some (.int .i64 p) := by
          have h := cellsOfD (R_C HO5.out) i (by omega)
          rw [Nat.zero_add] at h
          rw [hp]
          exact h
        have CX0 := am_ hx0
        have CX1 := am_ hx1
        have CX2 := am_ hy
        clear hx0 hx1 hy
        have hfit := HSV.out.fit i a hag
        have hfull := fun q : 0 < lf => HSV.out.full q i a hag (by simp)
        rw [← hp] at hfit hfull
        have HORD := am_ (fun (k : Nat) b hb h1 h2 => HSV.out.ord i a k b hag hb (by simp) h1 h2)
        rw [← hp] at HORD
        have hii : (0 : Int) ≤ (i : Int) := by omega
        have hij : (i : Int) < (xs.length : Int) := by omega
        have ti : (i : Int).toNat = i := Int.toNat_natCast i
        have hik : (i : Int) < (ps.length : Int) := by omega
        clear ha hag hp hpn
        have HFIT := am_ hfit
        have HFULL := am_ hfull
        clear hfit hfull
        go_upto_region 13 with (fail)
        go_cut [117] from 79 to 153 (fun vc wx => vc = .bool false ∧ Aside0 (Below w6.heap.size w6 wx))
        case first =>
          have hX0 := (HL.out.cell (World.block_lt_of_cell? w6 _ CX0.out)).trans CX0.out
          have hX1 := (HL.out.cell (World.block_lt_of_cell? w6 _ CX1.out)).trans CX1.out
          have hX2 := (HL.out.cell (World.block_lt_of_cell? w6 _ CX2.out)).trans CX2.out
          have f1 := HFIT.out.1
          have f2 := HFIT.out.2
          have d1 : decide (p < 0) = false := decide_eq_false (by omega)
          have d2 : decide (a.f1 < p) = false := decide_eq_false (by omega)
          by_cases hq : 0 < lf
          · have d3 : decide (0 < lf) = true := decide_eq_true hq
            have e4 := HFULL.out hq
            have d4 : (p == a.f1) = true := by simp [e4]
            have d5 : (p != a.f1) = false := by simp [e4]
            have d6 : decide (p = a.f1) = true := decide_eq_true e4
            clear hq e4 f1 f2
            go_quiet (fail)
            go_wp2
            go_meet
            exact ⟨rfl, ⟨(by repeat first | (with_reducible first | exact HL.out | apply ba_ | apply bn_ | apply bd_) | exact HL.out)⟩⟩
          · have d3 : decide (0 < lf) = false := decide_eq_false hq
            clear hq f1 f2
            go_quiet (fail)
            go_wp2
            go_meet
            exact ⟨rfl, ⟨(by repeat first | (with_reducible first | exact HL.out | apply ba_ | apply bn_ | apply bd_) | exact HL.out)⟩⟩
        case rest =>
          clear HL
          obtain ⟨rfl, HL⟩ := hcut
          go_wp2_with fail
          go_loopw [12] (fun vi wr => ∃ k : Nat, vi = .int .i64 k ∧ Aside0 (k ≤ xs.length) ∧ Aside0 (Below w6.heap.size w6 wr)) (fun vi _ => xs.length - (intOf vi).toNat)
          case atStart => exact ⟨0, rfl, ⟨Nat.zero_le _⟩, ⟨(by repeat first | (with_reducible first | exact HL.out | apply ba_ | apply bn_ | apply bd_) | exact HL.out)⟩⟩
          case round =>
            clear HL
            obtain ⟨k, rfl, HK, HL⟩ := hrel
            by_cases hk : k < xs.length
            · have c2 : decide (k < xs.length) = true := decide_eq_true hk
              have hpn := HPL.out
              obtain ⟨b, hb⟩ : ∃ a, a = xs[k] := ⟨_, rfl⟩
              obtain ⟨q, hq⟩ : ∃ p, p = rdN ps k := ⟨_, rfl⟩
              have hbg : xs[k]? = some b := by rw [hb]; exact lt_of_get hk
              obtain ⟨adY, e0, hx0, hx1⟩ := at_T49 (R_C HO3.out) (k : Int) (by omega) (by omega)
              rw [rdT_get hk, ← hb] at hx0 hx1
              simp only [Int.toNat_natCast] at hx0 hx1
              cases e0
              have hy : w6.cell? ⟨b5, k, none⟩ = some (.int .i64 q) := by
                have h := cellsOfD (R_C HO5.out) k (by omega)
                rw [Nat.zero_add] at h
                rw [hq]
                exact h
              have CY0 := am_ hx0
              have CY1 := am_ hx1
              have CY2 := am_ hy
              clear hx0 hx1 hy
              have hord := HORD.out k b hbg
              rw [← hq] at hord
              have HO := am_ hord
              have hki : (0 : Int) ≤ (k : Int) := by omega
              have hkj : (k : Int) < (xs.length : Int) := by omega
              have tk : (k : Int).toNat = k := Int.toNat_natCast k
              have hkk : (k : Int) < (ps.length : Int) := by omega
              clear hb hbg hq hpn hord
              go_upto_region 18 with (fail)
              go_cut [153] from 118 to 153 (fun vc wx => vc = .bool false ∧ Aside0 (Below w6.heap.size w6 wx))
              case first =>
                have hX0 := (HL.out.cell (World.block_lt_of_cell? w6 _ CX0.out)).trans CX0.out
                have hX1 := (HL.out.cell (World.block_lt_of_cell? w6 _ CX1.out)).trans CX1.out
                have hX2 := (HL.out.cell (World.block_lt_of_cell? w6 _ CX2.out)).trans CX2.out
                have hY0 := (HL.out.cell (World.block_lt_of_cell? w6 _ CY0.out)).trans CY0.out
                have hY1 := (HL.out.cell (World.block_lt_of_cell? w6 _ CY1.out)).trans CY1.out
                have hY2 := (HL.out.cell (World.block_lt_of_cell? w6 _ CY2.out)).trans CY2.out
                by_cases hp : 0 < p
                · have d1 : decide (0 < p) = true := decide_eq_true hp
                  by_cases hr : b.f0 < a.f0
                  · have d2 : decide (b.f0 < a.f0) = true := decide_eq_true hr
                    have e4 := HO.out hr hp
                    have d4 : (q == b.f1) = true := by simp [e4]
                    have d5 : (q != b.f1) = false := by simp [e4]
                    have d6 : decide (q = b.f1) = true := decide_eq_true e4
                    clear hp hr e4
                    go_quiet (fail)
                    go_wp2
                    go_meet
                    exact ⟨rfl, ⟨(by repeat first | (with_reducible first | exact HL.out | apply ba_ | apply bn_ | apply bd_) | exact HL.out)⟩⟩
                  · have d2 : decide (b.f0 < a.f0) = false := decide_eq_false hr
                    clear hp hr
                    go_quiet (fail)
                    go_wp2
                    go_meet
                    exact ⟨rfl, ⟨(by repeat first | (with_reducible first | exact HL.out | apply ba_ | apply bn_ | apply bd_) | exact HL.out)⟩⟩
                · have d1 : decide (0 < p) = false := decide_eq_false hp
                  clear hp
                  go_quiet (fail)
                  go_wp2
                  go_meet
                  exact ⟨rfl, ⟨(by repeat first | (with_reducible first | exact HL.out | apply ba_ | apply bn_ | apply bd_) | exact HL.out)⟩⟩
              case rest =>
                clear HL
                obtain ⟨rfl, HL⟩ := hcut
                go_wp2
                go_roundw
                case rel => exact ⟨k + 1, by go_num, ⟨by omega⟩, ⟨(by repeat first | (with_reducible first | exact HL.out | apply ba_ | apply bn_ | apply bd_) | exact HL.out)⟩⟩
                case measure => simp [intOf]; omega
            · have c2 : decide (k < xs.length) = false := decide_eq_false hk
              clear hk
              go_wp2
              go_roundw
              case rel => exact ⟨i + 1, by go_num, ⟨by omega⟩, ⟨(by repeat first | (with_reducible first | exact HL.out | apply ba_ | apply bn_ | apply bd_) | exact HL.out)⟩⟩
              case measure => simp [intOf]; omega
      · have c1 : decide (i < xs.length) = false := decide_eq_false hi
        clear hi
        go_wp2_with fail
        refine (HAI.out _ (by repeat first | exact (Kd.C_below (R_C HO3.out) HL.out) | with_reducible refine ca_ ?_ _ | with_reducible refine cn_ ?_ _ | with_reducible refine cd_ ?_)).mono ?_
        rintro e w7 ⟨v13, rfl, ho, hb⟩
        have hbl := below_step (show Below w6.heap.size w6 _ from (by repeat first | (with_reducible first | exact HL.out | apply ba_ | apply bn_ | apply bd_) | exact HL.out)) hb
        have HO13 := am_ (Kd.R_lower ho (show w.heap.size ≤ _ from below_size (below_step HB.out (show Below w6.heap.size w6 _ from (by repeat first | (with_reducible first | exact HL.out | apply ba_ | apply bn_ | apply bd_) | exact HL.out)))))
        replace HO3 := am_ (Kd.R_below HO3.out hbl)
        replace HB := am_ (below_step HB.out hbl)
        clear ho hb hbl HL HO5
        have hsv := alloc_facts HGT.out HCR.out
        rw [distA_yes HGT.out HCR.out] at hsv HO13 ⊢
        simp only at hsv HO13 ⊢
        obtain ⟨SE, hSE⟩ : ∃ S, S = serveS xs ranksD (zerosN xs.length) cash := ⟨_, rfl⟩
        rw [← hSE] at hsv HO13 ⊢
        obtain ⟨ls, op⟩ := SE
        simp only at hsv HO13 ⊢
        have HSD := am_ hsv
        have HPD := am_ hsv.len
        have hsum2 := hsv.sum
        have hop := hsv.bd
        have hsm2 : 0 ≤ sumI ls := sumI_nonneg ls (srv_pos hsv)
        have hsb : wrap64 (sumI ls + op) = cash := by rw [wrapId (by omega)]; exact hsum2
        have hpl2 := hsv.len
        obtain ⟨kT, hT⟩ := roundsOf (rSum_ev ls (by omega) (srv_pos hsv) (by omega))
        have HT := am_ hT
        clear hsv hSE hT hsum2 hpl2
        obtain ⟨A13, c13, e13⟩ := Kd.R_slice HO13.out
        subst e13
        go_wp2_with fail
        refine (laws_rSum.calls kT A13 c13 ls (sumI ls) _ (by repeat first | exact (R_C HO13.out) | with_reducible refine ca_ ?_ _ | with_reducible refine cn_ ?_ _ | with_reducible refine cd_ ?_) (R_cap HO13.out) HT.out).mono ?_
        rintro e w8 ⟨rfl, hb0⟩
        have hb := db_ hb0
        clear hb0
        replace HO3 := am_ (Kd.R_below (by (with_reducible repeat first | apply ra_ | apply rn_ | apply rd_); exact HO3.out) hb); replace HO13 := am_ (Kd.R_below (by (with_reducible repeat first | apply ra_ | apply rn_ | apply rd_); exact HO13.out) hb); replace HB := am_ (below_step (by repeat first | (with_reducible first | exact HB.out | apply ba_ | apply bn_ | apply bd_) | exact HB.out) hb); clear hb
        go_wp2_with fail
        go_loopw [16] (fun vo wr => ∃ i : Nat, vo = .int .i64 i ∧ Aside0 (i ≤ xs.length) ∧ Aside0 (Below w8.heap.size w8 wr)) (fun vo _ => xs.length - (intOf vo).toNat)
        case atStart => exact ⟨0, rfl, ⟨Nat.zero_le _⟩, ⟨(by repeat first | (with_reducible first | exact (Below.refl _ _) | apply ba_ | apply bn_ | apply bd_) | exact (Below.refl _ _))⟩⟩
        case round =>
          obtain ⟨i, rfl, HI, HL⟩ := hrel
          by_cases hi : i < xs.length
          · have c1 : decide (i < xs.length) = true := decide_eq_true hi
            obtain ⟨b5, e5⟩ := R_head HO13.out (by have := HPD.out; omega)
            subst e5
            have hpn := HPD.out
            obtain ⟨a, ha⟩ : ∃ a, a = xs[i] := ⟨_, rfl⟩
            obtain ⟨p, hp⟩ : ∃ p, p = rdN ls i := ⟨_, rfl⟩
            have hag : xs[i]? = some a := by rw [ha]; exact lt_of_get hi
            obtain ⟨adX, e0, hx0, hx1⟩ := at_T49 (R_C HO3.out) (i : Int) (by omega) (by omega)
            rw [rdT_get hi, ← ha] at hx0 hx1
            simp only [Int.toNat_natCast] at hx0 hx1
            cases e0
            have hy : w8.cell? ⟨b5, i, none⟩ = some (.int .i64 p) := by
              have h := cellsOfD (R_C HO13.out) i (by omega)
              rw [Nat.zero_add] at h
              rw [hp]
              exact h
            have CX0 := am_ hx0
            have CX1 := am_ hx1
            have CX2 := am_ hy
            clear hx0 hx1 hy
            have HORD := am_ (fun (k : Nat) b hb h1 h2 => HSD.out.ord i a k b hag hb (by simp) h1 h2)
            rw [← hp] at HORD
            have hii : (0 : Int) ≤ (i : Int) := by omega
            have hij : (i : Int) < (xs.length : Int) := by omega
            have ti : (i : Int).toNat = i := Int.toNat_natCast i
            have hik : (i : Int) < (ls.length : Int) := by omega
            clear ha hag hp hpn
            go_wp2_with fail
            go_loopw [17] (fun vi wr => ∃ k : Nat, vi = .int .i64 k ∧ Aside0 (k ≤ xs.length) ∧ Aside0 (Below w8.heap.size w8 wr)) (fun vi _ => xs.length - (intOf vi).toNat)
            case atStart => exact ⟨0, rfl, ⟨Nat.zero_le _⟩, ⟨(by repeat first | (with_reducible first | exact HL.out | apply ba_ | apply bn_ | apply bd_) | exact HL.out)⟩⟩
            case round =>
              clear HL
              obtain ⟨k, rfl, HK, HL⟩ := hrel
              by_cases hk : k < xs.length
              · have c2 : decide (k < xs.length) = true := decide_eq_true hk
                have hpn := HPD.out
                obtain ⟨b, hb⟩ : ∃ a, a = xs[k] := ⟨_, rfl⟩
                obtain ⟨q, hq⟩ : ∃ p, p = rdN ls k := ⟨_, rfl⟩
                have hbg : xs[k]? = some b := by rw [hb]; exact lt_of_get hk
                obtain ⟨adY, e0, hx0, hx1⟩ := at_T49 (R_C HO3.out) (k : Int) (by omega) (by omega)
                rw [rdT_get hk, ← hb] at hx0 hx1
                simp only [Int.toNat_natCast] at hx0 hx1
                cases e0
                have hy : w8.cell? ⟨b5, k, none⟩ = some (.int .i64 q) := by
                  have h := cellsOfD (R_C HO13.out) k (by omega)
                  rw [Nat.zero_add] at h
                  rw [hq]
                  exact h
                have CY0 := am_ hx0
                have CY1 := am_ hx1
                have CY2 := am_ hy
                clear hx0 hx1 hy
                have hord := HORD.out k b hbg
                rw [← hq] at hord
                have HO := am_ hord
                have hki : (0 : Int) ≤ (k : Int) := by omega
                have hkj : (k : Int) < (xs.length : Int) := by omega
                have tk : (k : Int).toNat = k := Int.toNat_natCast k
                have hkk : (k : Int) < (ls.length : Int) := by omega
                clear hb hbg hq hpn hord
                go_upto_region 29 with (fail)
                go_cut [212] from 177 to 212 (fun vc wx => vc = .bool false ∧ Aside0 (Below w8.heap.size w8 wx))
                case first =>
                  have hX0 := (HL.out.cell (World.block_lt_of_cell? w8 _ CX0.out)).trans CX0.out
                  have hX1 := (HL.out.cell (World.block_lt_of_cell? w8 _ CX1.out)).trans CX1.out
                  have hX2 := (HL.out.cell (World.block_lt_of_cell? w8 _ CX2.out)).trans CX2.out
                  have hY0 := (HL.out.cell (World.block_lt_of_cell? w8 _ CY0.out)).trans CY0.out
                  have hY1 := (HL.out.cell (World.block_lt_of_cell? w8 _ CY1.out)).trans CY1.out
                  have hY2 := (HL.out.cell (World.block_lt_of_cell? w8 _ CY2.out)).trans CY2.out
                  by_cases hp : 0 < p
                  · have d1 : decide (0 < p) = true := decide_eq_true hp
                    by_cases hr : a.f0 < b.f0
                    · have d2 : decide (a.f0 < b.f0) = true := decide_eq_true hr
                      have e4 := HO.out hr hp
                      have d4 : (q == b.f1) = true := by simp [e4]
                      have d5 : (q != b.f1) = false := by simp [e4]
                      have d6 : decide (q = b.f1) = true := decide_eq_true e4
                      clear hp hr e4
                      go_quiet (fail)
                      go_wp2
                      go_meet
                      exact ⟨rfl, ⟨(by repeat first | (with_reducible first | exact HL.out | apply ba_ | apply bn_ | apply bd_) | exact HL.out)⟩⟩
                    · have d2 : decide (a.f0 < b.f0) = false := decide_eq_false hr
                      clear hp hr
                      go_quiet (fail)
                      go_wp2
                      go_meet
                      exact ⟨rfl, ⟨(by repeat first | (with_reducible first | exact HL.out | apply ba_ | apply bn_ | apply bd_) | exact HL.out)⟩⟩
                  · have d1 : decide (0 < p) = false := decide_eq_false hp
                    clear hp
                    go_quiet (fail)
                    go_wp2
                    go_meet
                    exact ⟨rfl, ⟨(by repeat first | (with_reducible first | exact HL.out | apply ba_ | apply bn_ | apply bd_) | exact HL.out)⟩⟩
                case rest =>
                  clear HL
                  obtain ⟨rfl, HL⟩ := hcut
                  go_wp2
                  go_roundw
                  case rel => exact ⟨k + 1, by go_num, ⟨by omega⟩, ⟨(by repeat first | (with_reducible first | exact HL.out | apply ba_ | apply bn_ | apply bd_) | exact HL.out)⟩⟩
                  case measure => simp [intOf]; omega
              · have c2 : decide (k < xs.length) = false := decide_eq_false hk
                clear hk
                go_wp2
                go_roundw
                case rel => exact ⟨i + 1, by go_num, ⟨by omega⟩, ⟨(by repeat first | (with_reducible first | exact HL.out | apply ba_ | apply bn_ | apply bd_) | exact HL.out)⟩⟩
                case measure => simp [intOf]; omega
          · have c1 : decide (i < xs.length) = false := decide_eq_false hi
            clear hi
            go_wp2_with fail
            refine (HRI.out _ (by repeat first | exact (Kd.C_below (R_C HO3.out) HL.out) | with_reducible refine ca_ ?_ _ | with_reducible refine cn_ ?_ _ | with_reducible refine cd_ ?_)).mono ?_
            rintro e w9 ⟨v18, rfl, ho, hb⟩
            have hbl := below_step (show Below w8.heap.size w8 _ from (by repeat first | (with_reducible first | exact HL.out | apply ba_ | apply bn_ | apply bd_) | exact HL.out)) hb
            have HO18 := am_ (Kd.R_lower ho (show w.heap.size ≤ _ from below_size (below_step HB.out (show Below w8.heap.size w8 _ from (by repeat first | (with_reducible first | exact HL.out | apply ba_ | apply bn_ | apply bd_) | exact HL.out)))))
            replace HB := am_ (below_step HB.out hbl)
            clear ho hb hbl HL
            have hrl := recL_all ps xs HPL.out (fun i a h => HSV.out.fit i a h)
            rw [HRA.out]
            simp only [HRA.out] at HO18 ⊢
            obtain ⟨RL, hRL⟩ : ∃ R, R = recL ps xs := ⟨_, rfl⟩
            rw [← hRL] at HO18 hrl
            have HRB := am_ hrl.1
            have HRN := am_ hrl.2
            have hrl3 : RL.length ≤ 20 := by have := hrl.2; omega
            clear hRL hrl
            obtain ⟨A18, c18, e18⟩ := Kd.R_slice HO18.out
            subst e18
            go_wp2_with fail
            go_loopw [20] (fun vo wr => ∃ i : Nat, vo = .int .i64 i ∧ Aside0 (i ≤ RL.length) ∧ Aside0 (Below w9.heap.size w9 wr)) (fun vo _ => RL.length - (intOf vo).toNat)
            case atStart => exact ⟨0, rfl, ⟨Nat.zero_le _⟩, ⟨(by repeat first | (with_reducible first | exact (Below.refl _ _) | apply ba_ | apply bn_ | apply bd_) | exact (Below.refl _ _))⟩⟩
            case round =>
              obtain ⟨i, rfl, HI, HL⟩ := hrel
              by_cases hi : i < RL.length
              · have c1 : decide (i < RL.length) = true := decide_eq_true hi
                obtain ⟨b18, e18⟩ := R_head HO18.out (by omega)
                subst e18
                obtain ⟨p, hp⟩ : ∃ p, p = rdN RL i := ⟨_, rfl⟩
                have hy : w9.cell? ⟨b18, i, none⟩ = some (.int .i64 p) := by
                  have h := cellsOfD (R_C HO18.out) i (by omega)
                  rw [Nat.zero_add] at h
                  rw [hp]
                  exact h
                have hpb := mem_all_rd HRB.out hi
                rw [← hp] at hpb
                have hX := (HL.out.cell (World.block_lt_of_cell? w9 _ hy)).trans hy
                have hii : (0 : Int) ≤ (i : Int) := by omega
                have hij : (i : Int) < (RL.length : Int) := by omega
                have ti : (i : Int).toNat = i := Int.toNat_natCast i
                have d1 : decide (p < 0) = false := decide_eq_false (by omega)
                have d2 : decide (1000 < p) = false := decide_eq_false (by omega)
                clear hy hp hpb
                go_wp2
                go_roundw
                case rel => exact ⟨i + 1, by go_num, ⟨by omega⟩, ⟨(by repeat first | (with_reducible first | exact HL.out | apply ba_ | apply bn_ | apply bd_) | exact HL.out)⟩⟩
                case measure => simp [intOf]; omega
              · have c1 : decide (i < RL.length) = false := decide_eq_false hi
                have hl1 : ((RL.length : Int) == (xs.length : Int)) = true := by rw [HRN.out]; simp
                have hl2 : decide ((RL.length : Int) = (xs.length : Int)) = true := by rw [HRN.out]; simp
                clear hi
                go_wp2
                go_ret
                exact ⟨by first | rfl | simp [hl1, hl2], below_step ((by repeat first | (with_reducible first | exact HB.out | apply ba_ | apply bn_ | apply bd_) | exact HB.out)) ((by repeat first | (with_reducible first | exact HL.out | apply ba_ | apply bn_ | apply bd_) | exact HL.out))⟩
end Go.Proofs.Ytbnhpkkkijjkkaa.O
