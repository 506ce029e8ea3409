/- The law FnAssets walked: draws, both programs' selections, the value of what is selected and of each alone, stress. No other condition. -/
import Derived.Test.YtiaakolalhdelaaPureFnAssets
import Derived.Shelf.SlicesE.IndexFunc
import Derived.Shelf.SlLaysH
import Derived.Test.YtiaakolalhdelaaOFnAssetsa
namespace Go.Proofs.Ytiaakolalhdelaa.O
open Go.RowKit Go.Proofs.YtiaakolalhdelaaW.PrintWords Go.Proofs.YtiaakolalhdelaaW.PrintLast Go.Proofs.YtiaakolalhdelaaW.PrintMore Go.Proofs.Ytiaakolalhdelaa.PL17A Go.Proofs.Ytiaakolalhdelaa.EvKit Go.Proofs.Ytiaakolalhdelaa.Pure
set_option linter.unusedVariables false
set_option linter.unusedSimpArgs false
attribute [local go_sem] max2_int min2_int max_two min_two max_three min_three max_four min_four
theorem sizeA : (Try.prog.info? 51).map (fun i => i.size) = some 3 := by kernel_rfl
theorem cutOne {A : Option Addr} {c : Nat} {ys pre t : List S51} {a : S51} (hx : ys = pre ++ a :: t) (hc : ys.length ≤ c) : ∃ (A2 : Option Addr) (c2 : Nat), (∀ W : World, (Instr.slice 32 (.slice A ys.length c) (some (.int .i64 (pre.length : Int))) (some (.int .i64 ((pre.length : Int) + 1))) none).run Try.prog W = .ok (.slice A2 1 c2) W) ∧ 1 ≤ c2 ∧ ∀ w : World, Kd.C k51 w A ys.length ys → Kd.C k51 w A2 1 [a] := by
  have hl : ys.length = pre.length + (t.length + 1) := by rw [hx]; simp
  have h2 : (ys.take (pre.length + 1)).drop pre.length = [a] := by rw [hx]; simp [List.take_append, List.drop_append]
  refine ⟨if c = pre.length then A else A.map (·.add (pre.length * 3)), c - pre.length, fun W => ?_, by omega, fun w h => ?_⟩
  · obtain ⟨i, hi, hsz⟩ := Option.map_eq_some_iff.mp sizeA
    have h1 := cut_mid (P := Try.prog) 32 51 .i64 .i64 Try.underlying32 hi 3 hsz A ys.length c (pre.length : Int) ((pre.length : Int) + 1) (by omega) (by omega) (by omega) hc W
    rw [show ((pre.length : Int) + 1).toNat = pre.length + 1 from by omega, Int.toNat_natCast, Nat.add_sub_cancel_left] at h1
    exact h1
  · have h3 := Kd.C_mid h (lo := pre.length) (hi := pre.length + 1) (by omega) (by omega) hc
    rw [h2] at h3
    exact h3
set_option maxHeartbeats 16000000 in
set_option maxRecDepth 100000 in
theorem law_c (A0 : Option Addr) (c0 : Nat) (l0 : List Int) (w : World) (hr0 : Kd.C (Kd.int .u8) w A0 l0.length l0) (hc0 : l0.length ≤ c0) (he0 : ∀ y ∈ l0, (0 ≤ y ∧ y ≤ 255)) :
    Calls Try.prog 13 #[.slice A0 l0.length c0] w fun e w' => e = .returned (.bool true) ∧ Below w.heap.size w w' := by
  have HR0 := am_ hr0
  have HC0 := am_ hc0
  have HE0 := am_ he0
  have HB := am_ (Below.refl w.heap.size w)
  clear hr0 hc0 he0
  by_cases hbig : (l0.length : Int) > 65536
  · have HV := am_ (show laws_vBig.f l0 = some true from congrArg some (decide_eq_true hbig))
    clear hbig
    go_enter Try.func13, Try.ntmps13
    go_wp2_with fail
    refine (laws_vBig.calls A0 c0 l0 true _ (by repeat first | exact (Kd.C_below HR0.out HB.out) | with_reducible refine ca_ ?_ _ | with_reducible refine cn_ ?_ _ | with_reducible refine cd_ ?_) HC0.out HV.out).mono ?_
    rintro e w1 ⟨rfl, hb0⟩
    have hb := db_ hb0
    clear hb0
    replace HB := am_ (below_step (by repeat first | (with_reducible first | exact HB.out | apply ba_ | apply bn_ | apply bd_) | exact HB.out) hb); clear hb
    go_wp2
    go_ret
    exact ⟨rfl, (by repeat first | (with_reducible first | exact HB.out | apply ba_ | apply bn_ | apply bd_) | exact HB.out)⟩
  have HV := am_ (show laws_vBig.f l0 = some false from congrArg some (decide_eq_false hbig))
  clear hbig
  go_enter Try.func13, Try.ntmps13
  go_wp2_with fail
  refine (laws_vBig.calls A0 c0 l0 false _ (by repeat first | exact (Kd.C_below HR0.out HB.out) | with_reducible refine ca_ ?_ _ | with_reducible refine cn_ ?_ _ | with_reducible refine cd_ ?_) HC0.out HV.out).mono ?_
  rintro e w1 ⟨rfl, hb0⟩
  have hb := db_ hb0
  clear hb0
  replace HB := am_ (below_step (by repeat first | (with_reducible first | exact HB.out | apply ba_ | apply bn_ | apply bd_) | exact HB.out) hb); clear hb
  go_wp2_with fail
  refine (drawSel_c A0 c0 l0 _ (by repeat first | exact (Kd.C_below HR0.out HB.out) | with_reducible refine ca_ ?_ _ | with_reducible refine cn_ ?_ _ | with_reducible refine cd_ ?_) HE0.out).mono ?_
  rintro e w2 ⟨v3, need, rfl, xs, ho, hl, hb⟩
  have HO3 := am_ (Kd.R_lower ho (show w.heap.size ≤ _ from below_size (by repeat first | (with_reducible first | exact HB.out | apply ba_ | apply bn_ | apply bd_) | exact HB.out)))
  replace HB := am_ (below_step (by repeat first | (with_reducible first | exact HB.out | apply ba_ | apply bn_ | apply bd_) | exact HB.out) hb); clear hb
  clear ho
  obtain ⟨A3, c3, e3⟩ := Kd.R_slice HO3.out
  subst e3
  have HI := am_ (fun W h0 => selI_c A3 c3 xs need W h0 (R_cap HO3.out) (by omega))
  have HS := am_ (fun W h0 => selS_c A3 c3 xs need W h0 (R_cap HO3.out) (by omega))
  have hsl : (selA xs need).1.length ≤ 10 := selA_length xs need
  have hfa := fun at_ h => sel_facts (xs := xs) (need := need) (at_ := at_) h
  obtain ⟨SL, hSL⟩ : ∃ R, R = selA xs need := ⟨_, rfl⟩
  rw [← hSL] at HI HS hsl hfa
  clear hSL
  obtain ⟨PS, so⟩ := SL
  simp only at HI HS hsl
  obtain ⟨kE, hE⟩ := roundsOf (vInts_ev PS (by omega))
  have HE := am_ hE
  clear hE
  go_wp2_with fail
  refine (HI.out _ (by repeat first | exact (R_C HO3.out) | with_reducible refine ca_ ?_ _ | with_reducible refine cn_ ?_ _ | with_reducible refine cd_ ?_)).mono ?_
  rintro e w3 ⟨v5, rfl, ho, hb⟩
  have HP5 := am_ (Kd.R_lower ho (show w.heap.size ≤ _ from below_size (by repeat first | (with_reducible first | exact HB.out | apply ba_ | apply bn_ | apply bd_) | exact HB.out)))
  replace HO3 := am_ (Kd.R_below (by (with_reducible repeat first | apply ra_ | apply rn_ | apply rd_); exact HO3.out) hb); replace HB := am_ (below_step (by repeat first | (with_reducible first | exact HB.out | apply ba_ | apply bn_ | apply bd_) | exact HB.out) hb); clear hb
  clear ho
  go_wp2_with fail
  refine (HS.out _ (by repeat first | exact (R_C HO3.out) | with_reducible refine ca_ ?_ _ | with_reducible refine cn_ ?_ _ | with_reducible refine cd_ ?_)).mono ?_
  rintro e w4 ⟨v7, rfl, ho, hb⟩
  have HW7 := am_ (Kd.R_lower ho (show w.heap.size ≤ _ from below_size (by repeat first | (with_reducible first | exact HB.out | apply ba_ | apply bn_ | apply bd_) | exact HB.out)))
  replace HO3 := am_ (Kd.R_below (by (with_reducible repeat first | apply ra_ | apply rn_ | apply rd_); exact HO3.out) hb); replace HP5 := am_ (Kd.R_below (by (with_reducible repeat first | apply ra_ | apply rn_ | apply rd_); exact HP5.out) hb); replace HB := am_ (below_step (by repeat first | (with_reducible first | exact HB.out | apply ba_ | apply bn_ | apply bd_) | exact HB.out) hb); clear hb
  clear ho HI HS
  obtain ⟨A5, c5, e5⟩ := Kd.R_slice HP5.out
  subst e5
  obtain ⟨A7, c7, e7⟩ := Kd.R_slice HW7.out
  subst e7
  cases so with
  | false =>
    clear hfa hl
    go_wp2_with fail
    refine (laws_vInts.calls kE A5 c5 PS A7 c7 PS true _ (by repeat first | exact (R_C HP5.out) | with_reducible refine ca_ ?_ _ | with_reducible refine cn_ ?_ _ | with_reducible refine cd_ ?_) (R_cap HP5.out) (by repeat first | exact (R_C HW7.out) | with_reducible refine ca_ ?_ _ | with_reducible refine cn_ ?_ _ | with_reducible refine cd_ ?_) (R_cap HW7.out) HE.out).mono ?_
    rintro e w5 ⟨rfl, hb0⟩
    have hb := db_ hb0
    clear hb0
    replace HO3 := am_ (Kd.R_below (by (with_reducible repeat first | apply ra_ | apply rn_ | apply rd_); exact HO3.out) hb); replace HP5 := am_ (Kd.R_below (by (with_reducible repeat first | apply ra_ | apply rn_ | apply rd_); exact HP5.out) hb); replace HB := am_ (below_step (by repeat first | (with_reducible first | exact HB.out | apply ba_ | apply bn_ | apply bd_) | exact HB.out) hb); clear hb
    clear HW7 HE
    clear HO3 HP5 hsl
    go_wp2_with fail
    refine (drawStr_c A0 c0 l0 _ (by repeat first | exact (Kd.C_below HR0.out HB.out) | with_reducible refine ca_ ?_ _ | with_reducible refine cn_ ?_ _ | with_reducible refine cd_ ?_) HE0.out).mono ?_
    rintro e w20 ⟨va, az, A8, c8, sh, rfl, ho, hl, hc, hcc, hsl, hsa, hb⟩
    have HO := am_ (Kd.R_lower ho (show w.heap.size ≤ _ from below_size (by repeat first | (with_reducible first | exact HB.out | apply ba_ | apply bn_ | apply bd_) | exact HB.out)))
    have HC8 := am_ hc
    replace HB := am_ (below_step (by repeat first | (with_reducible first | exact HB.out | apply ba_ | apply bn_ | apply bd_) | exact HB.out) hb); clear hb
    clear ho hc
    obtain ⟨A6, c6, e6⟩ := Kd.R_slice HO.out
    subst e6
    have HI := am_ (fun W h0 h1 => strI_c A6 c6 az A8 c8 sh W h0 (R_cap HO.out) h1 hcc hsa (by omega) (by omega))
    obtain ⟨kS, hS⟩ := roundsOf (specStress_ev az sh (by omega))
    have hfa := fun v h => str_facts (xs := az) (sh := sh) (v := v) h
    have hca := implCollateral_ev az (by omega)
    have HCC := am_ hcc
    obtain ⟨SA, hSA⟩ : ∃ R, R = strA az sh := ⟨_, rfl⟩
    rw [← hSA] at HI hS hfa
    obtain ⟨val, ok⟩ := SA
    simp only at HI
    have HS := am_ hS
    clear hSA hsl hsa hcc hS
    go_wp2_with fail
    refine (HI.out _ (by repeat first | exact (R_C HO.out) | with_reducible refine ca_ ?_ _ | with_reducible refine cn_ ?_ _ | with_reducible refine cd_ ?_) (by repeat first | exact HC8.out | with_reducible refine ca_ ?_ _ | with_reducible refine cn_ ?_ _ | with_reducible refine cd_ ?_)).mono ?_
    rintro e w21 ⟨rfl, hb⟩
    replace HC8 := am_ (Kd.C_below (show (Kd.int .i64).C _ A8 sh.length sh from (by repeat first | exact HC8.out | with_reducible refine ca_ ?_ _ | with_reducible refine cn_ ?_ _ | with_reducible refine cd_ ?_)) hb)
    replace HO := am_ (Kd.R_below (by (with_reducible repeat first | apply ra_ | apply rn_ | apply rd_); exact HO.out) hb); replace HB := am_ (below_step (by repeat first | (with_reducible first | exact HB.out | apply ba_ | apply bn_ | apply bd_) | exact HB.out) hb); clear hb
    go_wp2_with fail
    refine (spec_StressValue.calls kS A6 c6 az A8 c8 sh val ok _ (by repeat first | exact (R_C HO.out) | with_reducible refine ca_ ?_ _ | with_reducible refine cn_ ?_ _ | with_reducible refine cd_ ?_) (R_cap HO.out) (by repeat first | exact HC8.out | with_reducible refine ca_ ?_ _ | with_reducible refine cn_ ?_ _ | with_reducible refine cd_ ?_) HCC.out HS.out).mono ?_
    rintro e w22 ⟨rfl, hb⟩
    replace HO := am_ (Kd.R_below (by (with_reducible repeat first | apply ra_ | apply rn_ | apply rd_); exact HO.out) hb); replace HB := am_ (below_step (by repeat first | (with_reducible first | exact HB.out | apply ba_ | apply bn_ | apply bd_) | exact HB.out) hb); clear hb
    clear HC8 HCC HI HS
    have hvv : (val != val) = false := bne_self_eq_false val
    have hve : (val == val) = true := beq_self_eq_true val
    cases ok with
    | false =>
      clear hfa hca
      go_wp2
      go_ret
      exact ⟨by first | rfl | simp, (by repeat first | (with_reducible first | exact HB.out | apply ba_ | apply bn_ | apply bd_) | exact HB.out)⟩
    | true =>
      obtain ⟨u, hu, hvu⟩ := hfa val rfl
      rw [hu] at hca
      obtain ⟨kU, hU⟩ := roundsOf hca
      have HU := am_ hU
      have d1 : decide (val ≤ u) = true := decide_eq_true hvu
      clear hfa hca hu hU hvu
      go_wp2_with fail
      refine (impl_CollateralValue.calls kU A6 c6 az u true _ (by repeat first | exact (R_C HO.out) | with_reducible refine ca_ ?_ _ | with_reducible refine cn_ ?_ _ | with_reducible refine cd_ ?_) (R_cap HO.out) HU.out).mono ?_
      rintro e w23 ⟨rfl, hb⟩
      replace HO := am_ (Kd.R_below (by (with_reducible repeat first | apply ra_ | apply rn_ | apply rd_); exact HO.out) hb); replace HB := am_ (below_step (by repeat first | (with_reducible first | exact HB.out | apply ba_ | apply bn_ | apply bd_) | exact HB.out) hb); clear hb
      go_wp2
      go_ret
      exact ⟨by first | rfl | simp [d1], (by repeat first | (with_reducible first | exact HB.out | apply ba_ | apply bn_ | apply bd_) | exact HB.out)⟩
  | true =>
    obtain ⟨_, _, hrng, T, hT, ⟨hn1, hn0, hn2⟩, hone⟩ := hfa PS rfl
    have HRG := am_ hrng
    have HON := am_ hone
    have hct := implCollateral_ev (PS.map (fun k => rd_T51 xs k)) (by rw [List.length_map]; omega)
    rw [hT] at hct
    obtain ⟨kT, hkT⟩ := roundsOf hct
    have HKT := am_ hkT
    clear hfa hrng hT hone hct hkT
    go_wp2_with fail
    refine (laws_vInts.calls kE A5 c5 PS A7 c7 PS true _ (by repeat first | exact (R_C HP5.out) | with_reducible refine ca_ ?_ _ | with_reducible refine cn_ ?_ _ | with_reducible refine cd_ ?_) (R_cap HP5.out) (by repeat first | exact (R_C HW7.out) | with_reducible refine ca_ ?_ _ | with_reducible refine cn_ ?_ _ | with_reducible refine cd_ ?_) (R_cap HW7.out) HE.out).mono ?_
    rintro e w5 ⟨rfl, hb0⟩
    have hb := db_ hb0
    clear hb0
    replace HO3 := am_ (Kd.R_below (by (with_reducible repeat first | apply ra_ | apply rn_ | apply rd_); exact HO3.out) hb); replace HP5 := am_ (Kd.R_below (by (with_reducible repeat first | apply ra_ | apply rn_ | apply rd_); exact HP5.out) hb); replace HB := am_ (below_step (by repeat first | (with_reducible first | exact HB.out | apply ba_ | apply bn_ | apply bd_) | exact HB.out) hb); clear hb
    clear HW7 HE
    go_wp2_with (((with_reducible refine gate_dst (N := 53) rfl ?_); refine Kd.R_lit k51 w5.heap.size 51 (w0 := w5) ?hg (N := 53) ?hd (xs := []) (inner := []) (ok := fun _ => True) (okp := fun _ => True) ?hr ?hp (fun _ hk => hk) trivial (by repeat first | (with_reducible first | exact (Below.refl w5.heap.size w5) | apply ba_ | apply bn_ | apply bd_) | exact (Below.refl w5.heap.size w5)) (below_size (by repeat first | (with_reducible first | exact (Below.refl w5.heap.size w5) | apply ba_ | apply bn_ | apply bd_) | exact (Below.refl w5.heap.size w5))) (by simp) ?_; (case hd => rfl); (case hg => rfl); (case hr => first | (go_simp; done) | (go_simp; rfl)); (case hp => exact (Reps.none _ _)); intro v1 w1 ho hb hgr hnw); have HO := am_ ho; have HL := am_ hb; clear ho hb hgr hnw)
    go_loopw [9, 10] (fun v9 v10 wr => ∃ (done rest : List Int), Aside0 (PS = done ++ rest) ∧ v10 = .int .i64 done.length ∧ Aside0 (Kd.R k51 51 wr w5.heap.size (fun _ => True) v9 (done.map (fun k => rd_T51 xs k))) ∧ Aside0 (Below w5.heap.size w5 wr)) (fun _ v10 _ => PS.length - (intOf v10).toNat)
    case atStart => exact ⟨[], PS, ⟨rfl⟩, rfl, ⟨(by (with_reducible repeat first | apply ra_ | apply rn_ | apply rd_); exact HO.out)⟩, ⟨(by repeat first | (with_reducible first | exact HL.out | apply ba_ | apply bn_ | apply bd_) | exact HL.out)⟩⟩
    case round =>
      clear HO HL
      obtain ⟨done, rest, HX, rfl, HO, HL⟩ := hrel
      cases rest with
      | cons a t =>
        have hlt := len_cons HX.out
        have hk := HRG.out a (by rw [HX.out]; simp)
        have k0 := hk.1
        have k1 := hk.2
        have c : decide (done.length < PS.length) = true := decide_eq_true (by omega)
        have hdl : (done.length : Int) < (PS.length : Int) := by omega
        obtain ⟨adv, e1, hxv⟩ := Kd.at_int (R_C HP5.out) (done.length : Int) (by omega) hdl
        cases e1
        rw [rd_at HX.out rfl, Int.toNat_natCast] at hxv
        replace hxv := (HL.out.cell (World.block_lt_of_cell? w5 _ hxv)).trans hxv
        obtain ⟨x, hx⟩ : ∃ x, x = rd_T51 xs a := ⟨_, rfl⟩
        obtain ⟨ad, e0, hx0, hx1, hx2⟩ := at_T51 (R_C HO3.out) a k0 k1
        rw [← hx] at hx0 hx1 hx2
        cases e0
        replace hx0 := (HL.out.cell (World.block_lt_of_cell? w5 _ hx0)).trans hx0
        replace hx1 := (HL.out.cell (World.block_lt_of_cell? w5 _ hx1)).trans hx1
        replace hx2 := (HL.out.cell (World.block_lt_of_cell? w5 _ hx2)).trans hx2
        have hdm : (done.map (fun k => rd_T51 xs k)).length ≤ 10 := by rw [List.length_map]; omega
        have HM := am_ (show (done ++ [a]).map (fun k => rd_T51 xs k) = done.map (fun k => rd_T51 xs k) ++ [x] from by rw [List.map_append, hx]; rfl)
        obtain ⟨DM, hDM⟩ : ∃ D, D = done.map (fun k => rd_T51 xs k) := ⟨_, rfl⟩
        rw [← hDM] at HO HM hdm
        clear hlt hk hx hDM
        go_wp2_with (((with_reducible refine gate_builtin (b := .append) (xs := #[.tmp 60, .tmp 68]) rfl ?_); at_builtin; refine Kd.R_append k51 (w0 := w5) w5.heap.size rfl (.tmp 60) (.tmp 68) 32 51 (.agg #[(.int .i64 0), (.int .i64 0), (.int .i64 0)]) 24 rfl Try.underlying32 infoA rfl (by decide) (by omega) u9 DM x [.int .i64 x.f0, .int .i64 x.f1, .int .i64 x.f2] (fun _ => True) (fun _ => False) rfl rfl ?aP (fun _ hk => hk.elim) ?aF ?aO ?aB ?aS ?aL ?_; (case aP => exact k51_mkM _ _ _ _); (case aB => exact (by repeat first | (with_reducible first | exact HL.out | apply ba_ | apply bn_ | apply bd_) | exact HL.out)); (case aF => exact (fun _ _ => trivial)); (case aO => exact (by (with_reducible repeat first | apply ra_ | apply rn_ | apply rd_); exact HO.out)); (case aS => exact (below_size (by repeat first | (with_reducible first | exact HL.out | apply ba_ | apply bn_ | apply bd_) | exact HL.out))); (case aL => omega); intro v1 w1 ho hb hg hat); have n_ := am_ ho; clear HO HL; have HO := n_; have HL := am_ hb; clear n_ ho hb hg hat)
        go_roundw
        case rel => exact ⟨done ++ [a], t, ⟨snoc HX.out⟩, by rw [len_snoc], ⟨by rw [HM.out]; exact (by (with_reducible repeat first | apply ra_ | apply rn_ | apply rd_); exact HO.out)⟩, ⟨(by repeat first | (with_reducible first | exact HL.out | apply ba_ | apply bn_ | apply bd_) | exact HL.out)⟩⟩
        case measure => simp [intOf]; omega
      | nil =>
        have c : decide (done.length < PS.length) = false := decide_eq_false (by have := len_nil HX.out; omega)
        obtain rfl : PS = done := by simpa using HX.out
        obtain ⟨ys, hys⟩ : ∃ ys, ys = PS.map (fun k => rd_T51 xs k) := ⟨_, rfl⟩
        have hyl : ys.length ≤ 10 := by rw [hys, List.length_map]; omega
        rw [← hys] at HO HKT HON
        clear hys HX hsl
        obtain ⟨A9, c9, e9⟩ := Kd.R_slice HO.out
        subst e9
        have d0 : decide (T < need) = false := decide_eq_false (by omega)
        have HO9 := HO
        go_wp2_with fail
        refine (impl_CollateralValue.calls kT A9 c9 ys T true _ (by repeat first | exact (R_C HO.out) | with_reducible refine ca_ ?_ _ | with_reducible refine cn_ ?_ _ | with_reducible refine cd_ ?_) (R_cap HO.out) HKT.out).mono ?_
        rintro e w6 ⟨rfl, hb⟩
        have hbl := below_step (show Below w5.heap.size w5 _ from (by repeat first | (with_reducible first | exact HL.out | apply ba_ | apply bn_ | apply bd_) | exact HL.out)) hb
        have HCP := am_ (R_cap HO.out)
        have HY := am_ (Kd.C_below (show Kd.C k51 _ A9 ys.length ys from (by repeat first | exact (R_C HO.out) | with_reducible refine ca_ ?_ _ | with_reducible refine cn_ ?_ _ | with_reducible refine cd_ ?_)) hb)
        replace HB := am_ (below_step HB.out hbl)
        clear hb hbl HL HO HO9 HP5 HO3 HKT d0 c
        have d0 : decide (T < need) = false := decide_eq_false (by omega)
        go_wp2
        go_loopw [13] (fun v13 wr => ∃ (pre rest : List S51), Aside0 (ys = pre ++ rest) ∧ v13 = .int .i64 pre.length ∧ Aside0 (Kd.C k51 wr A9 ys.length ys) ∧ Aside0 (Below w.heap.size w wr)) (fun v13 _ => ys.length - (intOf v13).toNat)
        case atStart => exact ⟨[], ys, ⟨rfl⟩, rfl, ⟨(by repeat first | exact HY.out | with_reducible refine ca_ ?_ _ | with_reducible refine cn_ ?_ _ | with_reducible refine cd_ ?_)⟩, ⟨(by repeat first | (with_reducible first | exact HB.out | apply ba_ | apply bn_ | apply bd_) | exact HB.out)⟩⟩
        case round =>
          clear HY HB
          obtain ⟨pre, rest, HX, rfl, HY, HB⟩ := hrel
          cases rest with
          | cons a t =>
            have hlt := len_cons HX.out
            have c : decide (pre.length < ys.length) = true := decide_eq_true (by omega)
            obtain ⟨o, ho, o0, o1, o2⟩ := HON.out a (by rw [HX.out]; simp)
            have hco := implCollateral_ev [a] (by simp)
            rw [ho] at hco
            obtain ⟨kO, hkO⟩ := roundsOf hco
            have HKO := am_ hkO
            obtain ⟨A4, c4, hrun, h14, hCm⟩ := cutOne (A := A9) (c := c9) HX.out HCP.out
            have H14 := am_ h14
            have HCM := am_ hCm
            have hwr : wrap64 (T - o) = T - o := wrapId (by omega)
            have d1 : decide (need ≤ T - o) = false := decide_eq_false (by omega)
            have d2 : decide (T - o ≥ need) = false := decide_eq_false (by omega)
            have hpl : (pre.length : Int) + 1 ≤ ys.length := by omega
            clear hlt ho hco hkO h14 hCm
            go_wp2_with fail
            refine (impl_CollateralValue.calls kO A4 c4 [a] o true _ (by repeat first | exact (HCM.out _ HY.out) | with_reducible refine ca_ ?_ _ | with_reducible refine cn_ ?_ _ | with_reducible refine cd_ ?_) H14.out HKO.out).mono ?_
            rintro e w7 ⟨rfl, hb⟩
            replace HY := am_ (Kd.C_below (show Kd.C k51 _ A9 ys.length ys from (by repeat first | exact HY.out | with_reducible refine ca_ ?_ _ | with_reducible refine cn_ ?_ _ | with_reducible refine cd_ ?_)) hb)
            replace HB := am_ (below_step (by repeat first | (with_reducible first | exact HB.out | apply ba_ | apply bn_ | apply bd_) | exact HB.out) hb); clear hb
            go_wp2
            go_roundw
            case rel => exact ⟨pre ++ [a], t, ⟨snoc HX.out⟩, by rw [len_snoc], ⟨(by repeat first | exact HY.out | with_reducible refine ca_ ?_ _ | with_reducible refine cn_ ?_ _ | with_reducible refine cd_ ?_)⟩, ⟨(by repeat first | (with_reducible first | exact HB.out | apply ba_ | apply bn_ | apply bd_) | exact HB.out)⟩⟩
            case measure => simp [intOf]; omega
          | nil =>
            have c : decide (pre.length < ys.length) = false := decide_eq_false (by have := len_nil HX.out; omega)
            clear HX HY HON HCP hn1 hn0 hn2 hyl d0
            go_wp2_with fail
            refine (drawStr_c A0 c0 l0 _ (by repeat first | exact (Kd.C_below HR0.out HB.out) | with_reducible refine ca_ ?_ _ | with_reducible refine cn_ ?_ _ | with_reducible refine cd_ ?_) HE0.out).mono ?_
            rintro e w20 ⟨va, az, A8, c8, sh, rfl, ho, hl, hc, hcc, hsl, hsa, hb⟩
            have HO := am_ (Kd.R_lower ho (show w.heap.size ≤ _ from below_size (by repeat first | (with_reducible first | exact HB.out | apply ba_ | apply bn_ | apply bd_) | exact HB.out)))
            have HC8 := am_ hc
            replace HB := am_ (below_step (by repeat first | (with_reducible first | exact HB.out | apply ba_ | apply bn_ | apply bd_) | exact HB.out) hb); clear hb
            clear ho hc
            obtain ⟨A6, c6, e6⟩ := Kd.R_slice HO.out
            subst e6
            have HI := am_ (fun W h0 h1 => strI_c A6 c6 az A8 c8 sh W h0 (R_cap HO.out) h1 hcc hsa (by omega) (by omega))
            obtain ⟨kS, hS⟩ := roundsOf (specStress_ev az sh (by omega))
            have hfa := fun v h => str_facts (xs := az) (sh := sh) (v := v) h
            have hca := implCollateral_ev az (by omega)
            have HCC := am_ hcc
            obtain ⟨SA, hSA⟩ : ∃ R, R = strA az sh := ⟨_, rfl⟩
            rw [← hSA] at HI hS hfa
            obtain ⟨val, ok⟩ := SA
            simp only at HI
            have HS := am_ hS
            clear hSA hsl hsa hcc hS
            go_wp2_with fail
            refine (HI.out _ (by repeat first | exact (R_C HO.out) | with_reducible refine ca_ ?_ _ | with_reducible refine cn_ ?_ _ | with_reducible refine cd_ ?_) (by repeat first | exact HC8.out | with_reducible refine ca_ ?_ _ | with_reducible refine cn_ ?_ _ | with_reducible refine cd_ ?_)).mono ?_
            rintro e w21 ⟨rfl, hb⟩
            replace HC8 := am_ (Kd.C_below (show (Kd.int .i64).C _ A8 sh.length sh from (by repeat first | exact HC8.out | with_reducible refine ca_ ?_ _ | with_reducible refine cn_ ?_ _ | with_reducible refine cd_ ?_)) hb)
            replace HO := am_ (Kd.R_below (by (with_reducible repeat first | apply ra_ | apply rn_ | apply rd_); exact HO.out) hb); replace HB := am_ (below_step (by repeat first | (with_reducible first | exact HB.out | apply ba_ | apply bn_ | apply bd_) | exact HB.out) hb); clear hb
            go_wp2_with fail
            refine (spec_StressValue.calls kS A6 c6 az A8 c8 sh val ok _ (by repeat first | exact (R_C HO.out) | with_reducible refine ca_ ?_ _ | with_reducible refine cn_ ?_ _ | with_reducible refine cd_ ?_) (R_cap HO.out) (by repeat first | exact HC8.out | with_reducible refine ca_ ?_ _ | with_reducible refine cn_ ?_ _ | with_reducible refine cd_ ?_) HCC.out HS.out).mono ?_
            rintro e w22 ⟨rfl, hb⟩
            replace HO := am_ (Kd.R_below (by (with_reducible repeat first | apply ra_ | apply rn_ | apply rd_); exact HO.out) hb); replace HB := am_ (below_step (by repeat first | (with_reducible first | exact HB.out | apply ba_ | apply bn_ | apply bd_) | exact HB.out) hb); clear hb
            clear HC8 HCC HI HS
            have hvv : (val != val) = false := bne_self_eq_false val
            have hve : (val == val) = true := beq_self_eq_true val
            cases ok with
            | false =>
              clear hfa hca
              go_wp2
              go_ret
              exact ⟨by first | rfl | simp, (by repeat first | (with_reducible first | exact HB.out | apply ba_ | apply bn_ | apply bd_) | exact HB.out)⟩
            | true =>
              obtain ⟨u, hu, hvu⟩ := hfa val rfl
              rw [hu] at hca
              obtain ⟨kU, hU⟩ := roundsOf hca
              have HU := am_ hU
              have d1 : decide (val ≤ u) = true := decide_eq_true hvu
              clear hfa hca hu hU hvu
              go_wp2_with fail
              refine (impl_CollateralValue.calls kU A6 c6 az u true _ (by repeat first | exact (R_C HO.out) | with_reducible refine ca_ ?_ _ | with_reducible refine cn_ ?_ _ | with_reducible refine cd_ ?_) (R_cap HO.out) HU.out).mono ?_
              rintro e w23 ⟨rfl, hb⟩
              replace HO := am_ (Kd.R_below (by (with_reducible repeat first | apply ra_ | apply rn_ | apply rd_); exact HO.out) hb); replace HB := am_ (below_step (by repeat first | (with_reducible first | exact HB.out | apply ba_ | apply bn_ | apply bd_) | exact HB.out) hb); clear hb
              go_wp2
              go_ret
              exact ⟨by first | rfl | simp [d1], (by repeat first | (with_reducible first | exact HB.out | apply ba_ | apply bn_ | apply bd_) | exact HB.out)⟩
end Go.Proofs.Ytiaakolalhdelaa.O
