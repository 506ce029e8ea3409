/- The law FnConcentration walked: draws, both programs' excesses, and what holds of them. No other condition. -/
import Derived.Test.YtiaakolalhdelaaPureFnConcentration
import Derived.Test.YtiaakolalhdelaaOFnConcentrationa
import Derived.Test.YtiaakolalhdelaaOFnConcentrationb
import Derived.Test.YtiaakolalhdelaaOFnConcentrationc
namespace Go.Proofs.Ytiaakolalhdelaa.O
open Go.RowKit Go.Proofs.YtiaakolalhdelaaW.PrintWords Go.Proofs.YtiaakolalhdelaaW.PrintLast Go.Proofs.YtiaakolalhdelaaW.PrintMore Go.Proofs.Ytiaakolalhdelaa.PL17C Go.Proofs.Ytiaakolalhdelaa.EvKit Go.Proofs.Ytiaakolalhdelaa.Pure
set_option linter.unusedVariables false
set_option linter.unusedSimpArgs false
attribute [local go_sem] max2_int min2_int max_two min_two max_three min_three max_four min_four
set_option maxHeartbeats 16000000 in
set_option maxRecDepth 100000 in
theorem law_c (A0 : Option Addr) (c0 : Nat) (l0 : List Int) (w : World) (hr0 : Kd.C (Kd.int .u8) w A0 l0.length l0) (hc0 : l0.length ≤ c0) (he0 : ∀ y ∈ l0, (0 ≤ y ∧ y ≤ 255)) :
    Calls Try.prog 8 #[.slice A0 l0.length c0] w fun e w' => e = .returned (.bool true) ∧ Below w.heap.size w w' := by
  have HR0 := am_ hr0
  have HC0 := am_ hc0
  have HE0 := am_ he0
  have HB := am_ (Below.refl w.heap.size w)
  clear hr0 hc0 he0
  by_cases hbig : (l0.length : Int) > 65536
  · have HV := am_ (show laws_vBig.f l0 = some true from congrArg some (decide_eq_true hbig))
    clear hbig
    go_enter Try.func8, Try.ntmps8
    go_wp2_with fail
    refine (laws_vBig.calls A0 c0 l0 true _ (by repeat first | exact (Kd.C_below HR0.out HB.out) | with_reducible refine ca_ ?_ _ | with_reducible refine cn_ ?_ _ | with_reducible refine cd_ ?_) HC0.out HV.out).mono ?_
    rintro e w1 ⟨rfl, hb0⟩
    have hb := db_ hb0
    clear hb0
    replace HB := am_ (below_step (by repeat first | (with_reducible first | exact HB.out | apply ba_ | apply bn_ | apply bd_) | exact HB.out) hb); clear hb
    go_wp2
    go_ret
    exact ⟨rfl, (by repeat first | (with_reducible first | exact HB.out | apply ba_ | apply bn_ | apply bd_) | exact HB.out)⟩
  have HV := am_ (show laws_vBig.f l0 = some false from congrArg some (decide_eq_false hbig))
  clear hbig
  go_enter Try.func8, Try.ntmps8
  go_wp2_with fail
  refine (laws_vBig.calls A0 c0 l0 false _ (by repeat first | exact (Kd.C_below HR0.out HB.out) | with_reducible refine ca_ ?_ _ | with_reducible refine cn_ ?_ _ | with_reducible refine cd_ ?_) HC0.out HV.out).mono ?_
  rintro e w1 ⟨rfl, hb0⟩
  have hb := db_ hb0
  clear hb0
  replace HB := am_ (below_step (by repeat first | (with_reducible first | exact HB.out | apply ba_ | apply bn_ | apply bd_) | exact HB.out) hb); clear hb
  go_wp2_with fail
  refine (drawConc_c A0 c0 l0 _ (by repeat first | exact (Kd.C_below HR0.out HB.out) | with_reducible refine ca_ ?_ _ | with_reducible refine cn_ ?_ _ | with_reducible refine cd_ ?_) HE0.out).mono ?_
  rintro e w2 ⟨v3, lim, rfl, xs, ho, hl, hb⟩
  have HO3 := am_ (Kd.R_lower ho (show w.heap.size ≤ _ from below_size (by repeat first | (with_reducible first | exact HB.out | apply ba_ | apply bn_ | apply bd_) | exact HB.out)))
  replace HB := am_ (below_step (by repeat first | (with_reducible first | exact HB.out | apply ba_ | apply bn_ | apply bd_) | exact HB.out) hb); clear hb
  clear ho
  obtain ⟨A3, c3, e3⟩ := Kd.R_slice HO3.out
  subst e3
  have HI := am_ (fun q W h0 => concI_c A3 c3 xs q W h0 (R_cap HO3.out) (by omega))
  have HS := am_ (fun W h0 => concS_c A3 c3 xs lim W h0 (R_cap HO3.out) (by omega))
  have hfa := fun h => conc_facts (xs := xs) (l := lim) h
  have hpx := fun h : (excessA xs lim).2 = true => (conc_facts h).2.2.2.2.2.2.2.2 lim (conc_facts h).2.1
  have hrl : (excessA xs lim).1.length ≤ 10 := excessA_length xs lim
  have HI1 := am_ (HI.out lim)
  obtain ⟨RA, hRA⟩ : ∃ R, R = excessA xs lim := ⟨_, rfl⟩
  rw [← hRA] at HI1 HS hrl hfa hpx
  clear hRA
  obtain ⟨PS, so⟩ := RA
  simp only at HI1 HS hrl hfa hpx
  obtain ⟨kE, hE⟩ := roundsOf (vInts_ev PS (by omega))
  have HE := am_ hE
  clear hE
  go_wp2_with fail
  refine (HI1.out _ (by repeat first | exact (R_C HO3.out) | with_reducible refine ca_ ?_ _ | with_reducible refine cn_ ?_ _ | with_reducible refine cd_ ?_)).mono ?_
  rintro e w3 ⟨v5, rfl, ho, hb⟩
  have HP5 := am_ (Kd.R_lower ho (show w.heap.size ≤ _ from below_size (by repeat first | (with_reducible first | exact HB.out | apply ba_ | apply bn_ | apply bd_) | exact HB.out)))
  replace HO3 := am_ (Kd.R_below (by (with_reducible repeat first | apply ra_ | apply rn_ | apply rd_); exact HO3.out) hb); replace HB := am_ (below_step (by repeat first | (with_reducible first | exact HB.out | apply ba_ | apply bn_ | apply bd_) | exact HB.out) hb); clear hb
  clear ho
  go_wp2_with fail
  refine (HS.out _ (by repeat first | exact (R_C HO3.out) | with_reducible refine ca_ ?_ _ | with_reducible refine cn_ ?_ _ | with_reducible refine cd_ ?_)).mono ?_
  rintro e w4 ⟨v7, rfl, ho, hb⟩
  have HW7 := am_ (Kd.R_lower ho (show w.heap.size ≤ _ from below_size (by repeat first | (with_reducible first | exact HB.out | apply ba_ | apply bn_ | apply bd_) | exact HB.out)))
  replace HO3 := am_ (Kd.R_below (by (with_reducible repeat first | apply ra_ | apply rn_ | apply rd_); exact HO3.out) hb); replace HP5 := am_ (Kd.R_below (by (with_reducible repeat first | apply ra_ | apply rn_ | apply rd_); exact HP5.out) hb); replace HB := am_ (below_step (by repeat first | (with_reducible first | exact HB.out | apply ba_ | apply bn_ | apply bd_) | exact HB.out) hb); clear hb
  clear ho HI1 HS
  obtain ⟨A5, c5, e5⟩ := Kd.R_slice HP5.out
  subst e5
  obtain ⟨A7, c7, e7⟩ := Kd.R_slice HW7.out
  subst e7
  cases so with
  | false =>
    clear hfa hpx
    go_wp2_with fail
    refine (laws_vInts.calls kE A5 c5 PS A7 c7 PS true _ (by repeat first | exact (R_C HP5.out) | with_reducible refine ca_ ?_ _ | with_reducible refine cn_ ?_ _ | with_reducible refine cd_ ?_) (R_cap HP5.out) (by repeat first | exact (R_C HW7.out) | with_reducible refine ca_ ?_ _ | with_reducible refine cn_ ?_ _ | with_reducible refine cd_ ?_) (R_cap HW7.out) HE.out).mono ?_
    rintro e w5 ⟨rfl, hb0⟩
    have hb := db_ hb0
    clear hb0
    replace HO3 := am_ (Kd.R_below (by (with_reducible repeat first | apply ra_ | apply rn_ | apply rd_); exact HO3.out) hb); replace HP5 := am_ (Kd.R_below (by (with_reducible repeat first | apply ra_ | apply rn_ | apply rd_); exact HP5.out) hb); replace HW7 := am_ (Kd.R_below (by (with_reducible repeat first | apply ra_ | apply rn_ | apply rd_); exact HW7.out) hb); replace HB := am_ (below_step (by repeat first | (with_reducible first | exact HB.out | apply ba_ | apply bn_ | apply bd_) | exact HB.out) hb); clear hb
    go_wp2_with fail
    refine (laws_vInts.calls kE A5 c5 PS A7 c7 PS true _ (by repeat first | exact (R_C HP5.out) | with_reducible refine ca_ ?_ _ | with_reducible refine cn_ ?_ _ | with_reducible refine cd_ ?_) (R_cap HP5.out) (by repeat first | exact (R_C HW7.out) | with_reducible refine ca_ ?_ _ | with_reducible refine cn_ ?_ _ | with_reducible refine cd_ ?_) (R_cap HW7.out) HE.out).mono ?_
    rintro e w6 ⟨rfl, hb0⟩
    have hb := db_ hb0
    clear hb0
    replace HO3 := am_ (Kd.R_below (by (with_reducible repeat first | apply ra_ | apply rn_ | apply rd_); exact HO3.out) hb); replace HP5 := am_ (Kd.R_below (by (with_reducible repeat first | apply ra_ | apply rn_ | apply rd_); exact HP5.out) hb); replace HW7 := am_ (Kd.R_below (by (with_reducible repeat first | apply ra_ | apply rn_ | apply rd_); exact HW7.out) hb); replace HB := am_ (below_step (by repeat first | (with_reducible first | exact HB.out | apply ba_ | apply bn_ | apply bd_) | exact HB.out) hb); clear hb
    go_wp2
    go_ret
    exact ⟨rfl, (by repeat first | (with_reducible first | exact HB.out | apply ba_ | apply bn_ | apply bd_) | exact HB.out)⟩
  | true =>
    obtain ⟨f1, f2, f3, f4, f5, f6, f7, f8, f9⟩ := hfa rfl
    have gg := of_decide_eq_true f1
    have hn20 := gg.2.1
    have HOK := am_ gg.1
    have hps := hpx rfl
    have hz0 := f9 0 (by omega)
    have hz1 := f9 1000 (by omega)
    have hl0 := excessA_length xs 0
    have hl1 := excessA_length xs 1000
    have HI0 := am_ (HI.out 0)
    have HI9 := am_ (HI.out 1000)
    obtain ⟨RB, hRB⟩ : ∃ R, R = excessA xs 0 := ⟨_, rfl⟩
    obtain ⟨RC, hRC⟩ : ∃ R, R = excessA xs 1000 := ⟨_, rfl⟩
    rw [← hRB] at f4 f7 hz0 hl0 HI0
    rw [← hRC] at f5 f8 hz1 hl1 HI9
    clear hRB hRC
    obtain ⟨PB, sb⟩ := RB
    obtain ⟨PC, sc⟩ := RC
    simp only at f4 f5 f7 f8 hz0 hz1 hl0 hl1 HI0 HI9
    subst f4
    subst f5
    obtain ⟨S, hS⟩ : ∃ S, S = sumA xs := ⟨_, rfl⟩
    rw [← hS] at f3 f6 f7
    obtain ⟨k1, hk1⟩ := roundsOf (rSum_ev PS (by omega) (fun x hx => (hps x hx).1) (by omega))
    obtain ⟨k2, hk2⟩ := roundsOf (rSum_ev PB (by omega) (fun x hx => (hz0 x hx).1) (by omega))
    obtain ⟨k3, hk3⟩ := roundsOf (rSum_ev PC (by omega) (fun x hx => (hz1 x hx).1) (by omega))
    rw [f7] at hk2
    rw [f8] at hk3
    obtain ⟨T, hT⟩ : ∃ T, T = sumI PS := ⟨_, rfl⟩
    rw [← hT] at hk1 f6
    have HK1 := am_ hk1
    have HK2 := am_ hk2
    have HK3 := am_ hk3
    have HS := am_ hS
    have d1 : decide (T ≤ S) = true := decide_eq_true f6
    clear hfa hpx f1 f2 f6 f7 f8 f9 gg hps hz0 hz1 hk1 hk2 hk3 hT hS
    go_wp2_with fail
    refine (laws_vInts.calls kE A5 c5 PS A7 c7 PS true _ (by repeat first | exact (R_C HP5.out) | with_reducible refine ca_ ?_ _ | with_reducible refine cn_ ?_ _ | with_reducible refine cd_ ?_) (R_cap HP5.out) (by repeat first | exact (R_C HW7.out) | with_reducible refine ca_ ?_ _ | with_reducible refine cn_ ?_ _ | with_reducible refine cd_ ?_) (R_cap HW7.out) HE.out).mono ?_
    rintro e w5 ⟨rfl, hb0⟩
    have hb := db_ hb0
    clear hb0
    replace HO3 := am_ (Kd.R_below (by (with_reducible repeat first | apply ra_ | apply rn_ | apply rd_); exact HO3.out) hb); replace HP5 := am_ (Kd.R_below (by (with_reducible repeat first | apply ra_ | apply rn_ | apply rd_); exact HP5.out) hb); replace HB := am_ (below_step (by repeat first | (with_reducible first | exact HB.out | apply ba_ | apply bn_ | apply bd_) | exact HB.out) hb); clear hb
    clear HW7
    go_wp2_with fail
    go_loopw [9, 10] (fun v9 v10 wr => ∃ (pre rest : List S51), v9 = .int .i64 (sumA pre) ∧ v10 = .int .i64 pre.length ∧ Aside0 (xs = pre ++ rest) ∧ Aside0 (Below w5.heap.size w5 wr)) (fun _ v10 _ => xs.length - (intOf v10).toNat)
    case atStart => exact ⟨[], xs, rfl, rfl, ⟨rfl⟩, ⟨(by repeat first | (with_reducible first | exact (Below.refl _ _) | apply ba_ | apply bn_ | apply bd_) | exact (Below.refl _ _))⟩⟩
    case round =>
      obtain ⟨pre, rest, rfl, rfl, HX, HL⟩ := hrel
      cases rest with
      | nil =>
        have c : decide (pre.length < xs.length) = false := decide_eq_false (by have := len_nil HX.out; omega)
        have hxp : xs = pre := by simpa using HX.out
        have hsp : sumA pre = S := by rw [← hxp]; exact HS.out.symm
        rw [hsp]
        clear HX hxp hsp
        go_wp2_with fail
        refine (HI0.out _ (by repeat first | exact (Kd.C_below (R_C HO3.out) HL.out) | with_reducible refine ca_ ?_ _ | with_reducible refine cn_ ?_ _ | with_reducible refine cd_ ?_)).mono ?_
        rintro e w6 ⟨v11, rfl, ho, hb⟩
        have hbl := below_step (show Below w5.heap.size w5 _ from (by repeat first | (with_reducible first | exact HL.out | apply ba_ | apply bn_ | apply bd_) | exact HL.out)) hb
        have HO11 := am_ (Kd.R_lower ho (show w.heap.size ≤ _ from below_size (below_step HB.out (show Below w5.heap.size w5 _ from (by repeat first | (with_reducible first | exact HL.out | apply ba_ | apply bn_ | apply bd_) | exact HL.out)))))
        replace HO3 := am_ (Kd.R_below HO3.out hbl)
        replace HP5 := am_ (Kd.R_below HP5.out hbl)
        replace HB := am_ (below_step HB.out hbl)
        clear ho hb hbl HL
        obtain ⟨A11, c11, e11⟩ := Kd.R_slice HO11.out
        subst e11
        go_wp2_with fail
        refine (HI9.out _ (by repeat first | exact (R_C HO3.out) | with_reducible refine ca_ ?_ _ | with_reducible refine cn_ ?_ _ | with_reducible refine cd_ ?_)).mono ?_
        rintro e w7 ⟨v13, rfl, ho, hb⟩
        have HO13 := am_ (Kd.R_lower ho (show w.heap.size ≤ _ from below_size (by repeat first | (with_reducible first | exact HB.out | apply ba_ | apply bn_ | apply bd_) | exact HB.out)))
        replace HP5 := am_ (Kd.R_below (by (with_reducible repeat first | apply ra_ | apply rn_ | apply rd_); exact HP5.out) hb); replace HO11 := am_ (Kd.R_below (by (with_reducible repeat first | apply ra_ | apply rn_ | apply rd_); exact HO11.out) hb); replace HB := am_ (below_step (by repeat first | (with_reducible first | exact HB.out | apply ba_ | apply bn_ | apply bd_) | exact HB.out) hb); clear hb
        clear ho
        obtain ⟨A13, c13, e13⟩ := Kd.R_slice HO13.out
        subst e13
        go_wp2_with fail
        refine (laws_rSum.calls k1 A5 c5 PS T _ (by repeat first | exact (R_C HP5.out) | with_reducible refine ca_ ?_ _ | with_reducible refine cn_ ?_ _ | with_reducible refine cd_ ?_) (R_cap HP5.out) HK1.out).mono ?_
        rintro e w8 ⟨rfl, hb0⟩
        have hb := db_ hb0
        clear hb0
        replace HO11 := am_ (Kd.R_below (by (with_reducible repeat first | apply ra_ | apply rn_ | apply rd_); exact HO11.out) hb); replace HO13 := am_ (Kd.R_below (by (with_reducible repeat first | apply ra_ | apply rn_ | apply rd_); exact HO13.out) hb); replace HB := am_ (below_step (by repeat first | (with_reducible first | exact HB.out | apply ba_ | apply bn_ | apply bd_) | exact HB.out) hb); clear hb
        go_wp2_with fail
        refine (laws_rSum.calls k2 A11 c11 PB S _ (by repeat first | exact (R_C HO11.out) | with_reducible refine ca_ ?_ _ | with_reducible refine cn_ ?_ _ | with_reducible refine cd_ ?_) (R_cap HO11.out) HK2.out).mono ?_
        rintro e w9 ⟨rfl, hb0⟩
        have hb := db_ hb0
        clear hb0
        replace HO13 := am_ (Kd.R_below (by (with_reducible repeat first | apply ra_ | apply rn_ | apply rd_); exact HO13.out) hb); replace HB := am_ (below_step (by repeat first | (with_reducible first | exact HB.out | apply ba_ | apply bn_ | apply bd_) | exact HB.out) hb); clear hb
        go_wp2_with fail
        refine (laws_rSum.calls k3 A13 c13 PC 0 _ (by repeat first | exact (R_C HO13.out) | with_reducible refine ca_ ?_ _ | with_reducible refine cn_ ?_ _ | with_reducible refine cd_ ?_) (R_cap HO13.out) HK3.out).mono ?_
        rintro e w10 ⟨rfl, hb0⟩
        have hb := db_ hb0
        clear hb0
        replace HB := am_ (below_step (by repeat first | (with_reducible first | exact HB.out | apply ba_ | apply bn_ | apply bd_) | exact HB.out) hb); clear hb
        go_wp2
        go_ret
        exact ⟨by first | rfl | simp [d1], (by repeat first | (with_reducible first | exact HB.out | apply ba_ | apply bn_ | apply bd_) | exact HB.out)⟩
      | cons a t =>
        have hlt := len_cons HX.out
        have hpl : (pre.length : Int) < xs.length := by omega
        have ha := HOK.out a (by rw [HX.out]; simp)
        have v0 := ha.2.1.1
        have v1_ := ha.2.1.2
        have hpb := sumA_bd pre (fun b hb => HOK.out b (by rw [HX.out]; simp [hb]))
        obtain ⟨ad, e0, hx0, hx1, hx2⟩ := at_T51 (R_C HO3.out) (pre.length : Int) (by omega) hpl
        rw [rd_T51_at HX.out rfl] at hx0 hx1 hx2
        simp only [Int.toNat_natCast] at hx0 hx1 hx2
        cases e0
        replace hx1 := (HL.out.cell (World.block_lt_of_cell? w5 _ hx1)).trans hx1
        have c : decide (pre.length < xs.length) = true := decide_eq_true (by omega)
        have tn : (pre.length : Int).toNat = pre.length := Int.toNat_natCast _
        have q0 : (0 : Int) ≤ (pre.length : Int) := by omega
        have HSX := am_ (snoc HX.out)
        have HSA := am_ (sumA_snoc pre a)
        obtain ⟨SP, hSP⟩ : ∃ SP, SP = sumA pre := ⟨_, rfl⟩
        have HSP := am_ hSP
        rw [← hSP] at hpb ⊢
        have sp0 := hpb.1
        have sp1 : SP ≤ 20000000000 := by have := hpb.2; omega
        clear hlt hx0 hx2 ha hpb hSP
        go_wp2
        go_roundw
        case rel => exact ⟨pre ++ [a], t, by rw [HSA.out, HSP.out], by rw [len_snoc], HSX, ⟨(by repeat first | (with_reducible first | exact HL.out | apply ba_ | apply bn_ | apply bd_) | exact HL.out)⟩⟩
        case measure => simp [intOf]; omega
end Go.Proofs.Ytiaakolalhdelaa.O
