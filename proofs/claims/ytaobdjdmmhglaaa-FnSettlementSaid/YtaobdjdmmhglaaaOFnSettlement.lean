/- The law FnSettlement walked: draws, both programs' settlements, and what holds of them. No other condition. -/
import Derived.Test.YtaobdjdmmhglaaaPureFnSettlement
import Derived.Shelf.Slices.Clone
import Derived.Shelf.SlicesE.IndexFunc
import Derived.Shelf.Slices.Turned
import Derived.Shelf.Lays2
import Derived.Shelf.SlLaysH
import Derived.Shelf.Lays
import Derived.Test.YtaobdjdmmhglaaaOFnSettlementa
import Derived.Test.YtaobdjdmmhglaaaOFnSettlementb
namespace Go.Proofs.Ytaobdjdmmhglaaa.O
open Go.RowKit Go.Proofs.YtaobdjdmmhglaaaW.PrintWords Go.Proofs.YtaobdjdmmhglaaaW.PrintLast Go.Proofs.YtaobdjdmmhglaaaW.PrintMore Go.Proofs.Ytaobdjdmmhglaaa.PL16T Go.Proofs.Ytaobdjdmmhglaaa.EvKit Go.Proofs.Ytaobdjdmmhglaaa.Pure
set_option linter.unusedVariables false
set_option linter.unusedSimpArgs false
attribute [local go_sem] max2_int min2_int max_two min_two max_three min_three max_four min_four
set_option maxHeartbeats 16000000 in
set_option maxRecDepth 100000 in
theorem law_c (A0 : Option Addr) (c0 : Nat) (l0 : List Int) (w : World) (hr0 : Kd.C (Kd.int .u8) w A0 l0.length l0) (hc0 : l0.length ≤ c0) (he0 : ∀ y ∈ l0, (0 ≤ y ∧ y ≤ 255)) :
    Calls Try.prog 12 #[.slice A0 l0.length c0] w fun e w' => e = .returned (.bool true) ∧ Below w.heap.size w w' := by
  have HR0 := am_ hr0
  have HC0 := am_ hc0
  have HE0 := am_ he0
  have HB := am_ (Below.refl w.heap.size w)
  clear hr0 hc0 he0
  by_cases hbig : (l0.length : Int) > 65536
  · have HV := am_ (show laws_vBig.f l0 = some true from congrArg some (decide_eq_true hbig))
    clear hbig
    go_enter Try.func12, Try.ntmps12
    go_wp2_with fail
    refine (laws_vBig.calls A0 c0 l0 true _ (by repeat first | exact (Kd.C_below HR0.out HB.out) | with_reducible refine ca_ ?_ _ | with_reducible refine cn_ ?_ _ | with_reducible refine cd_ ?_) HC0.out HV.out).mono ?_
    rintro e w1 ⟨rfl, hb0⟩
    have hb := db_ hb0
    clear hb0
    replace HB := am_ (below_step (by repeat first | (with_reducible first | exact HB.out | apply ba_ | apply bn_ | apply bd_) | exact HB.out) hb); clear hb
    go_wp2
    go_ret
    exact ⟨rfl, (by repeat first | (with_reducible first | exact HB.out | apply ba_ | apply bn_ | apply bd_) | exact HB.out)⟩
  have HV := am_ (show laws_vBig.f l0 = some false from congrArg some (decide_eq_false hbig))
  clear hbig
  go_enter Try.func12, Try.ntmps12
  go_wp2_with fail
  refine (laws_vBig.calls A0 c0 l0 false _ (by repeat first | exact (Kd.C_below HR0.out HB.out) | with_reducible refine ca_ ?_ _ | with_reducible refine cn_ ?_ _ | with_reducible refine cd_ ?_) HC0.out HV.out).mono ?_
  rintro e w1 ⟨rfl, hb0⟩
  have hb := db_ hb0
  clear hb0
  replace HB := am_ (below_step (by repeat first | (with_reducible first | exact HB.out | apply ba_ | apply bn_ | apply bd_) | exact HB.out) hb); clear hb
  go_wp2_with fail
  refine (drawSet_c A0 c0 l0 _ (by repeat first | exact (Kd.C_below HR0.out HB.out) | with_reducible refine ca_ ?_ _ | with_reducible refine cn_ ?_ _ | with_reducible refine cd_ ?_) HE0.out).mono ?_
  rintro e w2 ⟨v3, p, v5, xs, bal, rfl, ho, hl, _, hy, hyl, hb⟩
  have HO := am_ (Kd.R_lower ho (show w.heap.size ≤ _ from below_size (by repeat first | (with_reducible first | exact HB.out | apply ba_ | apply bn_ | apply bd_) | exact HB.out)))
  have HY := am_ (Kd.R_lower hy (show w.heap.size ≤ _ from below_size (by repeat first | (with_reducible first | exact HB.out | apply ba_ | apply bn_ | apply bd_) | exact HB.out)))
  replace HB := am_ (below_step (by repeat first | (with_reducible first | exact HB.out | apply ba_ | apply bn_ | apply bd_) | exact HB.out) hb); clear hb
  clear ho hy
  obtain ⟨A3, c3, e3⟩ := Kd.R_slice HO.out
  subst e3
  obtain ⟨A5, c5, e5⟩ := Kd.R_slice HY.out
  subst e5
  have HSI := am_ (fun W h0 h2 => ordI_c A3 c3 xs p A5 c5 bal W h0 (R_cap HO.out) (fun h => R_head HO.out h) (by omega) h2 (R_cap HY.out) (fun h => R_head HY.out h) (by omega))
  have HSS := am_ (fun W h0 h2 => ordS_c A3 c3 xs p A5 c5 bal W h0 (R_cap HO.out) (fun h => R_head HO.out h) (by omega) h2 (R_cap HY.out) (fun h => R_head HY.out h) (by omega))
  have HTI := am_ (fun W h0 h2 => togI_c A3 c3 xs p A5 c5 bal W h0 (R_cap HO.out) (fun h => R_head HO.out h) (by omega) h2 (R_cap HY.out) (fun h => R_head HY.out h) (by omega))
  have HTS := am_ (fun W h0 h2 => togS_c A3 c3 xs p A5 c5 bal W h0 (R_cap HO.out) (fun h => R_head HO.out h) (by omega) h2 (R_cap HY.out) (fun h => R_head HY.out h) (by omega))
  have hfa := fun at_ now h => set_facts (xs := xs) (p := p) (bal := bal) (at_ := at_) (now := now) h
  have hft := fun tg h => tog_facts (xs := xs) (p := p) (bal := bal) (tg := tg) h
  have hal := setA_len xs p bal
  have htl : (togA xs p bal).1.length ≤ 10 := togA_len xs p bal
  obtain ⟨SA, hSA⟩ : ∃ R, R = setA xs p bal := ⟨_, rfl⟩
  rw [← hSA] at HSI HSS hfa hal
  obtain ⟨AT, NOW, so⟩ := SA
  obtain ⟨TA, hTA⟩ : ∃ R, R = togA xs p bal := ⟨_, rfl⟩
  rw [← hTA] at HTI HTS hft htl
  obtain ⟨TG, tgo⟩ := TA
  simp only at HSI HSS HTI HTS hal htl
  clear hSA hTA
  have hA1 : AT.length ≤ 1048576 := by omega
  have hA2 : AT.length ≤ 9223372036854775806 := by omega
  have hN2 : NOW.length ≤ 9223372036854775806 := by omega
  obtain ⟨kA, hkA⟩ := roundsOf (vInts_ev AT hA2)
  obtain ⟨kN, hkN⟩ := roundsOf (vInts_ev NOW hN2)
  have HkA := am_ hkA
  have HkN := am_ hkN
  clear hkA hkN hal
  go_wp2_with fail
  refine (HSI.out _ (by repeat first | exact (R_C HO.out) | with_reducible refine ca_ ?_ _ | with_reducible refine cn_ ?_ _ | with_reducible refine cd_ ?_) (by repeat first | exact (R_C HY.out) | with_reducible refine ca_ ?_ _ | with_reducible refine cn_ ?_ _ | with_reducible refine cd_ ?_)).mono ?_
  rintro e w3 ⟨v6, v7, rfl, h6, h7, _, hb⟩
  have HAT := am_ (Kd.R_lower h6 (show w.heap.size ≤ _ from below_size (by repeat first | (with_reducible first | exact HB.out | apply ba_ | apply bn_ | apply bd_) | exact HB.out)))
  have HNW := am_ (Kd.R_lower h7 (show w.heap.size ≤ _ from below_size (by repeat first | (with_reducible first | exact HB.out | apply ba_ | apply bn_ | apply bd_) | exact HB.out)))
  replace HO := am_ (Kd.R_below (by (with_reducible repeat first | apply ra_ | apply rn_ | apply rd_); exact HO.out) hb); replace HY := am_ (Kd.R_below (by (with_reducible repeat first | apply ra_ | apply rn_ | apply rd_); exact HY.out) hb); replace HB := am_ (below_step (by repeat first | (with_reducible first | exact HB.out | apply ba_ | apply bn_ | apply bd_) | exact HB.out) hb); clear hb
  clear h6 h7
  go_wp2_with fail
  refine (HSS.out _ (by repeat first | exact (R_C HO.out) | with_reducible refine ca_ ?_ _ | with_reducible refine cn_ ?_ _ | with_reducible refine cd_ ?_) (by repeat first | exact (R_C HY.out) | with_reducible refine ca_ ?_ _ | with_reducible refine cn_ ?_ _ | with_reducible refine cd_ ?_)).mono ?_
  rintro e w4 ⟨v9, v10, rfl, h9, h10, _, hb⟩
  have HWA := am_ (Kd.R_lower h9 (show w.heap.size ≤ _ from below_size (by repeat first | (with_reducible first | exact HB.out | apply ba_ | apply bn_ | apply bd_) | exact HB.out)))
  have HWN := am_ (Kd.R_lower h10 (show w.heap.size ≤ _ from below_size (by repeat first | (with_reducible first | exact HB.out | apply ba_ | apply bn_ | apply bd_) | exact HB.out)))
  replace HO := am_ (Kd.R_below (by (with_reducible repeat first | apply ra_ | apply rn_ | apply rd_); exact HO.out) hb); replace HY := am_ (Kd.R_below (by (with_reducible repeat first | apply ra_ | apply rn_ | apply rd_); exact HY.out) hb); replace HAT := am_ (Kd.R_below (by (with_reducible repeat first | apply ra_ | apply rn_ | apply rd_); exact HAT.out) hb); replace HNW := am_ (Kd.R_below (by (with_reducible repeat first | apply ra_ | apply rn_ | apply rd_); exact HNW.out) hb); replace HB := am_ (below_step (by repeat first | (with_reducible first | exact HB.out | apply ba_ | apply bn_ | apply bd_) | exact HB.out) hb); clear hb
  clear h9 h10 HSI HSS
  obtain ⟨A6, c6, e6⟩ := Kd.R_slice HAT.out
  subst e6
  obtain ⟨A7, c7, e7⟩ := Kd.R_slice HNW.out
  subst e7
  obtain ⟨A9, c9, e9⟩ := Kd.R_slice HWA.out
  subst e9
  obtain ⟨A10, c10, e10⟩ := Kd.R_slice HWN.out
  subst e10
  cases so with
  | false =>
    clear hfa hft
    go_wp2_with fail
    refine (laws_vInts.calls kA A6 c6 AT A9 c9 AT true _ (by repeat first | exact (R_C HAT.out) | with_reducible refine ca_ ?_ _ | with_reducible refine cn_ ?_ _ | with_reducible refine cd_ ?_) (R_cap HAT.out) (by repeat first | exact (R_C HWA.out) | with_reducible refine ca_ ?_ _ | with_reducible refine cn_ ?_ _ | with_reducible refine cd_ ?_) (R_cap HWA.out) HkA.out).mono ?_
    rintro e w5 ⟨rfl, hb0⟩
    have hb := db_ hb0
    clear hb0
    replace HO := am_ (Kd.R_below (by (with_reducible repeat first | apply ra_ | apply rn_ | apply rd_); exact HO.out) hb); replace HY := am_ (Kd.R_below (by (with_reducible repeat first | apply ra_ | apply rn_ | apply rd_); exact HY.out) hb); replace HAT := am_ (Kd.R_below (by (with_reducible repeat first | apply ra_ | apply rn_ | apply rd_); exact HAT.out) hb); replace HNW := am_ (Kd.R_below (by (with_reducible repeat first | apply ra_ | apply rn_ | apply rd_); exact HNW.out) hb); replace HWA := am_ (Kd.R_below (by (with_reducible repeat first | apply ra_ | apply rn_ | apply rd_); exact HWA.out) hb); replace HWN := am_ (Kd.R_below (by (with_reducible repeat first | apply ra_ | apply rn_ | apply rd_); exact HWN.out) hb); replace HB := am_ (below_step (by repeat first | (with_reducible first | exact HB.out | apply ba_ | apply bn_ | apply bd_) | exact HB.out) hb); clear hb
    go_wp2_with fail
    refine (laws_vInts.calls kN A7 c7 NOW A10 c10 NOW true _ (by repeat first | exact (R_C HNW.out) | with_reducible refine ca_ ?_ _ | with_reducible refine cn_ ?_ _ | with_reducible refine cd_ ?_) (R_cap HNW.out) (by repeat first | exact (R_C HWN.out) | with_reducible refine ca_ ?_ _ | with_reducible refine cn_ ?_ _ | with_reducible refine cd_ ?_) (R_cap HWN.out) HkN.out).mono ?_
    rintro e w6 ⟨rfl, hb0⟩
    have hb := db_ hb0
    clear hb0
    replace HO := am_ (Kd.R_below (by (with_reducible repeat first | apply ra_ | apply rn_ | apply rd_); exact HO.out) hb); replace HY := am_ (Kd.R_below (by (with_reducible repeat first | apply ra_ | apply rn_ | apply rd_); exact HY.out) hb); replace HAT := am_ (Kd.R_below (by (with_reducible repeat first | apply ra_ | apply rn_ | apply rd_); exact HAT.out) hb); replace HNW := am_ (Kd.R_below (by (with_reducible repeat first | apply ra_ | apply rn_ | apply rd_); exact HNW.out) hb); replace HWA := am_ (Kd.R_below (by (with_reducible repeat first | apply ra_ | apply rn_ | apply rd_); exact HWA.out) hb); replace HWN := am_ (Kd.R_below (by (with_reducible repeat first | apply ra_ | apply rn_ | apply rd_); exact HWN.out) hb); replace HB := am_ (below_step (by repeat first | (with_reducible first | exact HB.out | apply ba_ | apply bn_ | apply bd_) | exact HB.out) hb); clear hb
    go_wp2_with fail
    refine (laws_vInts.calls kA A6 c6 AT A9 c9 AT true _ (by repeat first | exact (R_C HAT.out) | with_reducible refine ca_ ?_ _ | with_reducible refine cn_ ?_ _ | with_reducible refine cd_ ?_) (R_cap HAT.out) (by repeat first | exact (R_C HWA.out) | with_reducible refine ca_ ?_ _ | with_reducible refine cn_ ?_ _ | with_reducible refine cd_ ?_) (R_cap HWA.out) HkA.out).mono ?_
    rintro e w7 ⟨rfl, hb0⟩
    have hb := db_ hb0
    clear hb0
    replace HO := am_ (Kd.R_below (by (with_reducible repeat first | apply ra_ | apply rn_ | apply rd_); exact HO.out) hb); replace HY := am_ (Kd.R_below (by (with_reducible repeat first | apply ra_ | apply rn_ | apply rd_); exact HY.out) hb); replace HAT := am_ (Kd.R_below (by (with_reducible repeat first | apply ra_ | apply rn_ | apply rd_); exact HAT.out) hb); replace HNW := am_ (Kd.R_below (by (with_reducible repeat first | apply ra_ | apply rn_ | apply rd_); exact HNW.out) hb); replace HWA := am_ (Kd.R_below (by (with_reducible repeat first | apply ra_ | apply rn_ | apply rd_); exact HWA.out) hb); replace HWN := am_ (Kd.R_below (by (with_reducible repeat first | apply ra_ | apply rn_ | apply rd_); exact HWN.out) hb); replace HB := am_ (below_step (by repeat first | (with_reducible first | exact HB.out | apply ba_ | apply bn_ | apply bd_) | exact HB.out) hb); clear hb
    go_wp2_with fail
    refine (laws_vInts.calls kN A7 c7 NOW A10 c10 NOW true _ (by repeat first | exact (R_C HNW.out) | with_reducible refine ca_ ?_ _ | with_reducible refine cn_ ?_ _ | with_reducible refine cd_ ?_) (R_cap HNW.out) (by repeat first | exact (R_C HWN.out) | with_reducible refine ca_ ?_ _ | with_reducible refine cn_ ?_ _ | with_reducible refine cd_ ?_) (R_cap HWN.out) HkN.out).mono ?_
    rintro e w8 ⟨rfl, hb0⟩
    have hb := db_ hb0
    clear hb0
    replace HO := am_ (Kd.R_below (by (with_reducible repeat first | apply ra_ | apply rn_ | apply rd_); exact HO.out) hb); replace HY := am_ (Kd.R_below (by (with_reducible repeat first | apply ra_ | apply rn_ | apply rd_); exact HY.out) hb); replace HAT := am_ (Kd.R_below (by (with_reducible repeat first | apply ra_ | apply rn_ | apply rd_); exact HAT.out) hb); replace HNW := am_ (Kd.R_below (by (with_reducible repeat first | apply ra_ | apply rn_ | apply rd_); exact HNW.out) hb); replace HWA := am_ (Kd.R_below (by (with_reducible repeat first | apply ra_ | apply rn_ | apply rd_); exact HWA.out) hb); replace HWN := am_ (Kd.R_below (by (with_reducible repeat first | apply ra_ | apply rn_ | apply rd_); exact HWN.out) hb); replace HB := am_ (below_step (by repeat first | (with_reducible first | exact HB.out | apply ba_ | apply bn_ | apply bd_) | exact HB.out) hb); clear hb
    go_wp2
    go_ret
    exact ⟨by first | rfl | simp, (by repeat first | (with_reducible first | exact HB.out | apply ba_ | apply bn_ | apply bd_) | exact HB.out)⟩
  | true =>
    obtain ⟨hp, hxl, hok, hsc, hbl, hnw, hls, hlk, hft2⟩ := hfa AT NOW rfl
    clear hfa
    rw [lsum_sumI, lsum_sumI] at hls
    have hbb := sumI_le bal 1000000000 hbl.2
    have hnb := sumI_le NOW 1000000000 hnw.2
    obtain ⟨k1, hk1⟩ := roundsOf (rSum_ev NOW (by omega) (fun x hx => (hnw.2 x hx).1) (by omega))
    obtain ⟨k2, hk2⟩ := roundsOf (rSum_ev bal (by omega) (fun x hx => (hbl.2 x hx).1) (by omega))
    rw [hls] at hk1
    obtain ⟨S, hS⟩ : ∃ S, S = sumI bal := ⟨_, rfl⟩
    rw [← hS] at hk1 hk2
    have HK1 := am_ hk1
    have HK2 := am_ hk2
    have HOK := am_ hok
    have HLK := am_ hlk
    have HNL := am_ hnw.1
    have HPB := am_ hp
    have hpd := selP_bd xs 0 AT hok
    obtain ⟨PD, hPD⟩ : ∃ P, P = sumC (selP xs 0 AT) := ⟨_, rfl⟩
    rw [← hPD] at hpd
    have hge : tgo = true → PD ≤ sumC (TG.map (fun k => rd_T54 xs k)) := fun h => by rw [h] at hft; rw [hPD]; exact (hft TG rfl).2.2 AT hft2
    have hti : tgo = true → ∀ k ∈ TG, 0 ≤ k ∧ k < (xs.length : Int) := fun h => by rw [h] at hft; exact (hft TG rfl).2.1
    have HGE := am_ hge
    have HTI2 := am_ hti
    have HPD := am_ (show (0 : Int) + sumC (selP xs 0 AT) = PD from by rw [hPD]; omega)
    have pd1 : PD ≤ 1000000000 := by omega
    have hss : (S != S) = false := bne_self_eq_false S
    clear hft hft2 hp hok hsc hbl hnw hls hlk hbb hnb hk1 hk2 hS hPD hpd hge hti
    go_wp2_with fail
    refine (laws_vInts.calls kA A6 c6 AT A9 c9 AT true _ (by repeat first | exact (R_C HAT.out) | with_reducible refine ca_ ?_ _ | with_reducible refine cn_ ?_ _ | with_reducible refine cd_ ?_) (R_cap HAT.out) (by repeat first | exact (R_C HWA.out) | with_reducible refine ca_ ?_ _ | with_reducible refine cn_ ?_ _ | with_reducible refine cd_ ?_) (R_cap HWA.out) HkA.out).mono ?_
    rintro e w5 ⟨rfl, hb0⟩
    have hb := db_ hb0
    clear hb0
    replace HO := am_ (Kd.R_below (by (with_reducible repeat first | apply ra_ | apply rn_ | apply rd_); exact HO.out) hb); replace HY := am_ (Kd.R_below (by (with_reducible repeat first | apply ra_ | apply rn_ | apply rd_); exact HY.out) hb); replace HAT := am_ (Kd.R_below (by (with_reducible repeat first | apply ra_ | apply rn_ | apply rd_); exact HAT.out) hb); replace HNW := am_ (Kd.R_below (by (with_reducible repeat first | apply ra_ | apply rn_ | apply rd_); exact HNW.out) hb); replace HWA := am_ (Kd.R_below (by (with_reducible repeat first | apply ra_ | apply rn_ | apply rd_); exact HWA.out) hb); replace HWN := am_ (Kd.R_below (by (with_reducible repeat first | apply ra_ | apply rn_ | apply rd_); exact HWN.out) hb); replace HB := am_ (below_step (by repeat first | (with_reducible first | exact HB.out | apply ba_ | apply bn_ | apply bd_) | exact HB.out) hb); clear hb
    go_wp2_with fail
    refine (laws_vInts.calls kN A7 c7 NOW A10 c10 NOW true _ (by repeat first | exact (R_C HNW.out) | with_reducible refine ca_ ?_ _ | with_reducible refine cn_ ?_ _ | with_reducible refine cd_ ?_) (R_cap HNW.out) (by repeat first | exact (R_C HWN.out) | with_reducible refine ca_ ?_ _ | with_reducible refine cn_ ?_ _ | with_reducible refine cd_ ?_) (R_cap HWN.out) HkN.out).mono ?_
    rintro e w6 ⟨rfl, hb0⟩
    have hb := db_ hb0
    clear hb0
    replace HO := am_ (Kd.R_below (by (with_reducible repeat first | apply ra_ | apply rn_ | apply rd_); exact HO.out) hb); replace HY := am_ (Kd.R_below (by (with_reducible repeat first | apply ra_ | apply rn_ | apply rd_); exact HY.out) hb); replace HAT := am_ (Kd.R_below (by (with_reducible repeat first | apply ra_ | apply rn_ | apply rd_); exact HAT.out) hb); replace HNW := am_ (Kd.R_below (by (with_reducible repeat first | apply ra_ | apply rn_ | apply rd_); exact HNW.out) hb); replace HWA := am_ (Kd.R_below (by (with_reducible repeat first | apply ra_ | apply rn_ | apply rd_); exact HWA.out) hb); replace HWN := am_ (Kd.R_below (by (with_reducible repeat first | apply ra_ | apply rn_ | apply rd_); exact HWN.out) hb); replace HB := am_ (below_step (by repeat first | (with_reducible first | exact HB.out | apply ba_ | apply bn_ | apply bd_) | exact HB.out) hb); clear hb
    clear HWA HWN
    go_wp2_with fail
    refine (laws_rSum.calls k1 A7 c7 NOW S _ (by repeat first | exact (R_C HNW.out) | with_reducible refine ca_ ?_ _ | with_reducible refine cn_ ?_ _ | with_reducible refine cd_ ?_) (R_cap HNW.out) HK1.out).mono ?_
    rintro e w7 ⟨rfl, hb0⟩
    have hb := db_ hb0
    clear hb0
    replace HO := am_ (Kd.R_below (by (with_reducible repeat first | apply ra_ | apply rn_ | apply rd_); exact HO.out) hb); replace HY := am_ (Kd.R_below (by (with_reducible repeat first | apply ra_ | apply rn_ | apply rd_); exact HY.out) hb); replace HAT := am_ (Kd.R_below (by (with_reducible repeat first | apply ra_ | apply rn_ | apply rd_); exact HAT.out) hb); replace HNW := am_ (Kd.R_below (by (with_reducible repeat first | apply ra_ | apply rn_ | apply rd_); exact HNW.out) hb); replace HB := am_ (below_step (by repeat first | (with_reducible first | exact HB.out | apply ba_ | apply bn_ | apply bd_) | exact HB.out) hb); clear hb
    go_wp2_with fail
    refine (laws_rSum.calls k2 A5 c5 bal S _ (by repeat first | exact (R_C HY.out) | with_reducible refine ca_ ?_ _ | with_reducible refine cn_ ?_ _ | with_reducible refine cd_ ?_) (R_cap HY.out) HK2.out).mono ?_
    rintro e w8 ⟨rfl, hb0⟩
    have hb := db_ hb0
    clear hb0
    replace HO := am_ (Kd.R_below (by (with_reducible repeat first | apply ra_ | apply rn_ | apply rd_); exact HO.out) hb); replace HY := am_ (Kd.R_below (by (with_reducible repeat first | apply ra_ | apply rn_ | apply rd_); exact HY.out) hb); replace HAT := am_ (Kd.R_below (by (with_reducible repeat first | apply ra_ | apply rn_ | apply rd_); exact HAT.out) hb); replace HNW := am_ (Kd.R_below (by (with_reducible repeat first | apply ra_ | apply rn_ | apply rd_); exact HNW.out) hb); replace HB := am_ (below_step (by repeat first | (with_reducible first | exact HB.out | apply ba_ | apply bn_ | apply bd_) | exact HB.out) hb); clear hb
    clear HK1 HK2
    go_wp2_with fail
    go_loopw [12, 13] (fun v12 v13 wr => ∃ (pre rest : List S54) (pd : Int), v12 = .int .i64 pd ∧ v13 = .int .i64 pre.length ∧ Aside0 (xs = pre ++ rest) ∧ Aside0 (pd + sumC (selP rest pre.length AT) = PD) ∧ Aside0 (0 ≤ pd) ∧ Aside0 (Below w8.heap.size w8 wr)) (fun _ v13 _ => xs.length - (intOf v13).toNat)
    case atStart => exact ⟨[], xs, 0, rfl, rfl, ⟨rfl⟩, HPD, ⟨by decide⟩, ⟨(by repeat first | (with_reducible first | exact (Below.refl _ _) | apply ba_ | apply bn_ | apply bd_) | exact (Below.refl _ _))⟩⟩
    case round =>
      clear HPD
      obtain ⟨pre, rest, pd, rfl, rfl, HX, HPD, HP0, HL⟩ := hrel
      cases rest with
      | cons a t =>
        have hlt := len_cons HX.out
        have hpl : (pre.length : Int) < xs.length := by omega
        have ha := HOK.out a (by rw [HX.out]; simp)
        have f0 := ha.1.1
        have f1 := ha.1.2
        have g0 := ha.2.2.2.1
        have g1 := ha.2.2.2.2
        obtain ⟨ad, e0, hx0, hx1, hx2⟩ := at_T54 (R_C HO.out) (pre.length : Int) (by omega) hpl
        rw [rd_T54_at HX.out rfl] at hx0 hx1 hx2
        simp only [Int.toNat_natCast] at hx0 hx1 hx2
        cases e0
        have HX0 := am_ hx0
        have HX2 := am_ hx2
        have c : decide (pre.length < xs.length) = true := decide_eq_true (by omega)
        have hpd := HPD.out
        have hp0 := HP0.out
        have hsb := selP_bd t (pre.length + 1) AT (fun b hb => HOK.out b (by rw [HX.out]; simp [hb]))
        have hnl := HNL.out
        have hpb := HPB.out
        obtain ⟨kR, hkR⟩ := roundsOf (rIn_ev AT (pre.length : Int) hA1)
        clear hlt hx0 hx1 hx2 ha
        by_cases hin : (pre.length : Int) ∈ AT
        · rw [decide_eq_true hin] at hkR
          have HKR := am_ hkR
          rw [selP_in hin] at hpd
          have HPD2 := am_ (show (pd + a.f2) + sumC (selP t (pre.length + 1) AT) = PD from by omega)
          have hq : pd + a.f2 ≤ 1000000000 := by omega
          clear hin hkR hpd hsb hnl hpb HPD
          go_wp2_with fail
          refine (laws_rIn.calls kR A6 c6 AT (pre.length : Int) true _ (by repeat first | exact (Kd.C_below (R_C HAT.out) HL.out) | with_reducible refine ca_ ?_ _ | with_reducible refine cn_ ?_ _ | with_reducible refine cd_ ?_) (R_cap HAT.out) HKR.out).mono ?_
          rintro e w9 ⟨rfl, hb0⟩
          have hb := db_ hb0
          clear hb0
          have hbl := below_step (show Below w8.heap.size w8 _ from (by repeat first | (with_reducible first | exact HL.out | apply ba_ | apply bn_ | apply bd_) | exact HL.out)) hb
          replace HL := am_ hbl
          clear hb hbl
          have hx2 := (HL.out.cell (World.block_lt_of_cell? w8 _ HX2.out)).trans HX2.out
          go_wp2
          go_roundw
          case rel => exact ⟨pre ++ [a], t, pd + a.f2, rfl, by rw [len_snoc], ⟨snoc HX.out⟩, ⟨by rw [List.length_append, List.length_singleton]; exact HPD2.out⟩, ⟨by omega⟩, ⟨(by repeat first | (with_reducible first | exact HL.out | apply ba_ | apply bn_ | apply bd_) | exact HL.out)⟩⟩
          case measure => simp [intOf]; omega
        · rw [decide_eq_false hin] at hkR
          have HKR := am_ hkR
          rw [selP_out hin] at hpd
          have HPD2 := am_ hpd
          have hla := lackC HLK.out HX.out hin
          have h7 : a.f0 < (NOW.length : Int) := by omega
          obtain ⟨ad7, e7, hxn⟩ := Kd.at_int (R_C HNW.out) a.f0 f0 h7
          cases e7
          have HXN := am_ hxn
          have d1 : decide (rd NOW a.f0 ≥ a.f2) = false := decide_eq_false (by omega)
          have d2 : decide (a.f2 ≤ rd NOW a.f0) = false := decide_eq_false (by omega)
          obtain ⟨NV, hNV⟩ : ∃ q, q = rd NOW a.f0 := ⟨_, rfl⟩
          rw [← hNV] at HXN d1 d2
          clear hin hkR hpd hsb hnl hpb HPD hla hxn hNV
          go_wp2_with fail
          refine (laws_rIn.calls kR A6 c6 AT (pre.length : Int) false _ (by repeat first | exact (Kd.C_below (R_C HAT.out) HL.out) | with_reducible refine ca_ ?_ _ | with_reducible refine cn_ ?_ _ | with_reducible refine cd_ ?_) (R_cap HAT.out) HKR.out).mono ?_
          rintro e w9 ⟨rfl, hb0⟩
          have hb := db_ hb0
          clear hb0
          have hbl := below_step (show Below w8.heap.size w8 _ from (by repeat first | (with_reducible first | exact HL.out | apply ba_ | apply bn_ | apply bd_) | exact HL.out)) hb
          replace HL := am_ hbl
          clear hb hbl
          have hx0 := (HL.out.cell (World.block_lt_of_cell? w8 _ HX0.out)).trans HX0.out
          have hx2 := (HL.out.cell (World.block_lt_of_cell? w8 _ HX2.out)).trans HX2.out
          have hxn := (HL.out.cell (World.block_lt_of_cell? w8 _ HXN.out)).trans HXN.out
          go_upto_region 16 with (fail)
          go_region
          go_wp2
          go_roundw
          case rel => exact ⟨pre ++ [a], t, pd, rfl, by rw [len_snoc], ⟨snoc HX.out⟩, ⟨by rw [List.length_append, List.length_singleton]; exact HPD2.out⟩, HP0, ⟨(by repeat first | (with_reducible first | exact HL.out | apply ba_ | apply bn_ | apply bd_) | exact HL.out)⟩⟩
          case measure => simp [intOf]; omega
      | nil =>
        have c : decide (pre.length < xs.length) = false := decide_eq_false (by have := len_nil HX.out; omega)
        have hpd := HPD.out
        rw [selP, sumC, Int.add_zero] at hpd
        subst hpd
        clear HX HPD
        go_wp2_with fail
        refine (HTI.out _ (by repeat first | exact (Kd.C_below (R_C HO.out) HL.out) | with_reducible refine ca_ ?_ _ | with_reducible refine cn_ ?_ _ | with_reducible refine cd_ ?_) (by repeat first | exact (Kd.C_below (R_C HY.out) HL.out) | with_reducible refine ca_ ?_ _ | with_reducible refine cn_ ?_ _ | with_reducible refine cd_ ?_)).mono ?_
        rintro e w10 ⟨v14, rfl, h14, hb⟩
        have hbl := below_step (show Below w8.heap.size w8 _ from (by repeat first | (with_reducible first | exact HL.out | apply ba_ | apply bn_ | apply bd_) | exact HL.out)) hb
        have HT := am_ (Kd.R_lower h14 (show w.heap.size ≤ _ from below_size (below_step HB.out (show Below w8.heap.size w8 _ from (by repeat first | (with_reducible first | exact HL.out | apply ba_ | apply bn_ | apply bd_) | exact HL.out)))))
        replace HO := am_ (Kd.R_below HO.out hbl)
        replace HY := am_ (Kd.R_below HY.out hbl)
        replace HB := am_ (below_step HB.out hbl)
        clear h14 hb hbl HL HAT HNW
        go_wp2_with fail
        refine (HTS.out _ (by repeat first | exact (R_C HO.out) | with_reducible refine ca_ ?_ _ | with_reducible refine cn_ ?_ _ | with_reducible refine cd_ ?_) (by repeat first | exact (R_C HY.out) | with_reducible refine ca_ ?_ _ | with_reducible refine cn_ ?_ _ | with_reducible refine cd_ ?_)).mono ?_
        rintro e w11 ⟨v15, rfl, h15, hb⟩
        replace HO := am_ (Kd.R_below (by (with_reducible repeat first | apply ra_ | apply rn_ | apply rd_); exact HO.out) hb); replace HT := am_ (Kd.R_below (by (with_reducible repeat first | apply ra_ | apply rn_ | apply rd_); exact HT.out) hb); replace HB := am_ (below_step (by repeat first | (with_reducible first | exact HB.out | apply ba_ | apply bn_ | apply bd_) | exact HB.out) hb); clear hb
        clear h15 HTI HTS HY
        obtain ⟨A14, c14, e14⟩ := Kd.R_slice HT.out
        subst e14
        cases tgo with
        | false =>
          go_wp2
          go_ret
          exact ⟨by first | rfl | simp, (by repeat first | (with_reducible first | exact HB.out | apply ba_ | apply bn_ | apply bd_) | exact HB.out)⟩
        | true =>
          have hge := HGE.out rfl
          have hti := HTI2.out rfl
          have HTK := am_ hti
          obtain ⟨SU, hSU⟩ : ∃ q, q = sumC (TG.map (fun k => rd_T54 xs k)) := ⟨_, rfl⟩
          have hsu := sumC_bd (n := p) (TG.map (fun k => rd_T54 xs k)) (tgC_ok HOK.out hti)
          rw [List.length_map, ← hSU] at hsu
          rw [← hSU] at hge
          have HSU := am_ (show (0 : Int) + sumC (TG.map (fun k => rd_T54 xs k)) = SU from by rw [← hSU]; omega)
          have d9 : decide (pd ≤ SU) = true := decide_eq_true hge
          have d8 : decide (SU ≥ pd) = true := decide_eq_true hge
          have su1 : SU ≤ 20000000000 := by omega
          clear hge hti hSU hsu
          go_wp2_with fail
          go_loopw [18, 19] (fun v18 v19 wr => ∃ (done rest : List Int) (s : Int), v18 = .int .i64 s ∧ v19 = .int .i64 done.length ∧ Aside0 (TG = done ++ rest) ∧ Aside0 (s + sumC (rest.map (fun k => rd_T54 xs k)) = SU) ∧ Aside0 (0 ≤ s) ∧ Aside0 (Below w11.heap.size w11 wr)) (fun _ v19 _ => TG.length - (intOf v19).toNat)
          case atStart => exact ⟨[], TG, 0, rfl, rfl, ⟨rfl⟩, HSU, ⟨by decide⟩, ⟨(by repeat first | (with_reducible first | exact (Below.refl _ _) | apply ba_ | apply bn_ | apply bd_) | exact (Below.refl _ _))⟩⟩
          case round =>
            clear HSU
            obtain ⟨done, rest, s, rfl, rfl, HX, HSU, HP1, HL⟩ := hrel
            cases rest with
            | cons k t =>
              have hlt := len_cons HX.out
              have c : decide (done.length < TG.length) = true := decide_eq_true (by omega)
              have hdl : (done.length : Int) < (TG.length : Int) := by omega
              have hk := HTK.out k (by rw [HX.out]; simp)
              have k0 := hk.1
              have k1 := hk.2
              have n0 : decide (k < 0) = false := decide_eq_false (by omega)
              have n1 : decide (k ≥ (xs.length : Int)) = false := decide_eq_false (by omega)
              have n2 : decide ((xs.length : Int) ≤ k) = false := decide_eq_false (by omega)
              obtain ⟨adv, e1, hxv⟩ := Kd.at_int (R_C HT.out) (done.length : Int) (by omega) hdl
              cases e1
              rw [rd_at HX.out rfl, Int.toNat_natCast] at hxv
              replace hxv := (HL.out.cell (World.block_lt_of_cell? w11 _ hxv)).trans hxv
              obtain ⟨x, hx⟩ : ∃ x, x = rd_T54 xs k := ⟨_, rfl⟩
              obtain ⟨ad, e0, hx0, hx1, hx2⟩ := at_T54 (R_C HO.out) k k0 k1
              rw [← hx] at hx0 hx1 hx2
              cases e0
              replace hx2 := (HL.out.cell (World.block_lt_of_cell? w11 _ hx2)).trans hx2
              have hok := HOK.out x (by rw [hx]; exact rdC_mem ⟨k0, k1⟩)
              have g0 := hok.2.2.2.1
              have g1 := hok.2.2.2.2
              have hs0 := HP1.out
              have hsum := HSU.out
              rw [List.map_cons, sumC, ← hx] at hsum
              have htb := sumC_bd (n := p) (t.map (fun k => rd_T54 xs k)) (tgC_ok HOK.out (fun j hj => HTK.out j (by rw [HX.out]; simp [hj])))
              have HSU2 := am_ (show (s + x.f2) + sumC (t.map (fun k => rd_T54 xs k)) = SU from by omega)
              have hq : s + x.f2 ≤ 20000000000 := by omega
              clear hlt hk hx hx0 hx1 hok hsum htb HSU
              go_wp2
              go_roundw
              case rel => exact ⟨done ++ [k], t, s + x.f2, rfl, by rw [len_snoc], ⟨snoc HX.out⟩, HSU2, ⟨by omega⟩, ⟨(by repeat first | (with_reducible first | exact HL.out | apply ba_ | apply bn_ | apply bd_) | exact HL.out)⟩⟩
              case measure => simp [intOf]; omega
            | nil =>
              have c : decide (done.length < TG.length) = false := decide_eq_false (by have := len_nil HX.out; omega)
              have hsum := HSU.out
              rw [List.map_nil, sumC, Int.add_zero] at hsum
              subst hsum
              have hbl := show Below w11.heap.size w11 _ from (by repeat first | (with_reducible first | exact HL.out | apply ba_ | apply bn_ | apply bd_) | exact HL.out)
              replace HB := am_ (below_step HB.out hbl)
              clear HX HSU hbl HL
              go_wp2
              go_ret
              exact ⟨by first | rfl | simp [d9], (by repeat first | (with_reducible first | exact HB.out | apply ba_ | apply bn_ | apply bd_) | exact HB.out)⟩
end Go.Proofs.Ytaobdjdmmhglaaa.O
