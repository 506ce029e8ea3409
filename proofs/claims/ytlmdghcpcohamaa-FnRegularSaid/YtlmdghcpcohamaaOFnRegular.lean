/- The law FnRegular walked: draws, both programs' regular days, and what holds of them. No other condition. -/
import Derived.Test.YtlmdghcpcohamaaPureFnRegular
import Derived.Deep.RegionWith
import Derived.Shelf.Sort.Plain
import Derived.Shelf.Lays
import Derived.Test.YtlmdghcpcohamaaOFnRegulara
import Derived.Test.YtlmdghcpcohamaaOFnRegularb
import Derived.Test.YtlmdghcpcohamaaOFnRegularc
import Derived.Test.YtlmdghcpcohamaaOFnRegulard
import Derived.Test.YtlmdghcpcohamaaOFnRegulare
namespace Go.Proofs.Ytlmdghcpcohamaa.O
open Go.RowKit Go.Proofs.YtlmdghcpcohamaaW.PrintWords Go.Proofs.YtlmdghcpcohamaaW.PrintLast Go.Proofs.YtlmdghcpcohamaaW.PrintMore Go.Proofs.Ytlmdghcpcohamaa.PL14G Go.Proofs.Ytlmdghcpcohamaa.EvKit Go.Proofs.Ytlmdghcpcohamaa.Pure
set_option linter.unusedVariables false
set_option linter.unusedSimpArgs false
attribute [local go_sem] max2_int min2_int max_two min_two max_three min_three max_four min_four
theorem mulC2 {k : Nat} {s : Int} (hk : k ≤ 40) (hs : 1 ≤ s ∧ s ≤ 120) : 0 ≤ (k : Int) * s ∧ (k : Int) * s ≤ 4800 := mulC hk hs
set_option maxHeartbeats 16000000 in
set_option maxRecDepth 100000 in
theorem law_c (A0 : Option Addr) (c0 : Nat) (l0 : List Int) (w : World) (hr0 : Kd.C (Kd.int .u8) w A0 l0.length l0) (hc0 : l0.length ≤ c0) (he0 : ∀ y ∈ l0, (0 ≤ y ∧ y ≤ 255)) :
    Calls Try.prog 12 #[.slice A0 l0.length c0] w fun e w' => e = .returned (.bool true) ∧ Below w.heap.size w w' := by
  have HR0 := am_ hr0
  have HC0 := am_ hc0
  have HE0 := am_ he0
  have HB := am_ (Below.refl w.heap.size w)
  clear hr0 hc0 he0
  by_cases hbig : (l0.length : Int) > 65536
  · have HV := am_ (show laws_vBig.f l0 = some true from congrArg some (decide_eq_true hbig))
    clear hbig
    go_enter Try.func12, Try.ntmps12
    go_wp2_with fail
    refine (laws_vBig.calls A0 c0 l0 true _ (by repeat first | exact (Kd.C_below HR0.out HB.out) | with_reducible refine ca_ ?_ _ | with_reducible refine cn_ ?_ _ | with_reducible refine cd_ ?_) HC0.out HV.out).mono ?_
    rintro e w1 ⟨rfl, hb0⟩
    have hb := db_ hb0
    clear hb0
    replace HB := am_ (below_step (by repeat first | (with_reducible first | exact HB.out | apply ba_ | apply bn_ | apply bd_) | exact HB.out) hb); clear hb
    go_wp2
    go_ret
    exact ⟨rfl, (by repeat first | (with_reducible first | exact HB.out | apply ba_ | apply bn_ | apply bd_) | exact HB.out)⟩
  have HV := am_ (show laws_vBig.f l0 = some false from congrArg some (decide_eq_false hbig))
  clear hbig
  go_enter Try.func12, Try.ntmps12
  go_wp2_with fail
  refine (laws_vBig.calls A0 c0 l0 false _ (by repeat first | exact (Kd.C_below HR0.out HB.out) | with_reducible refine ca_ ?_ _ | with_reducible refine cn_ ?_ _ | with_reducible refine cd_ ?_) HC0.out HV.out).mono ?_
  rintro e w1 ⟨rfl, hb0⟩
  have hb := db_ hb0
  clear hb0
  replace HB := am_ (below_step (by repeat first | (with_reducible first | exact HB.out | apply ba_ | apply bn_ | apply bd_) | exact HB.out) hb); clear hb
  go_wp2_with fail
  refine (drawReg_c A0 c0 l0 _ (by repeat first | exact (Kd.C_below HR0.out HB.out) | with_reducible refine ca_ ?_ _ | with_reducible refine cn_ ?_ _ | with_reducible refine cd_ ?_) HE0.out).mono ?_
  rintro e w2 ⟨a, b, m, bk, rfl, hb⟩
  replace HB := am_ (below_step (by repeat first | (with_reducible first | exact HB.out | apply ba_ | apply bn_ | apply bd_) | exact HB.out) hb); clear hb
  have HI := am_ (fun W => regI_c a b m bk W)
  have HS := am_ (fun W => regS_c a b m bk W)
  have hrl : (regA a b m bk).1.length ≤ 41 := regA_len a b m bk
  obtain ⟨RA, hRA⟩ : ∃ R, R = regA a b m bk := ⟨_, rfl⟩
  have HRA := am_ hRA
  rw [← hRA] at HI HS hrl
  clear hRA
  obtain ⟨DS, so⟩ := RA
  simp only at HI HS hrl
  obtain ⟨kE, hE⟩ := roundsOf (vInts_ev DS (by omega))
  have HE := am_ hE
  clear hE
  go_wp2_with fail
  refine (HI.out _).mono ?_
  rintro e w3 ⟨v7, rfl, ho, hb⟩
  have HP7 := am_ (Kd.R_lower ho (show w.heap.size ≤ _ from below_size (by repeat first | (with_reducible first | exact HB.out | apply ba_ | apply bn_ | apply bd_) | exact HB.out)))
  replace HB := am_ (below_step (by repeat first | (with_reducible first | exact HB.out | apply ba_ | apply bn_ | apply bd_) | exact HB.out) hb); clear hb
  clear ho
  go_wp2_with fail
  refine (HS.out _).mono ?_
  rintro e w4 ⟨v9, rfl, ho, hb⟩
  have HW9 := am_ (Kd.R_lower ho (show w.heap.size ≤ _ from below_size (by repeat first | (with_reducible first | exact HB.out | apply ba_ | apply bn_ | apply bd_) | exact HB.out)))
  replace HP7 := am_ (Kd.R_below (by (with_reducible repeat first | apply ra_ | apply rn_ | apply rd_); exact HP7.out) hb); replace HB := am_ (below_step (by repeat first | (with_reducible first | exact HB.out | apply ba_ | apply bn_ | apply bd_) | exact HB.out) hb); clear hb
  clear ho HI HS
  obtain ⟨A7, c7, e7⟩ := Kd.R_slice HP7.out
  subst e7
  obtain ⟨A9, c9, e9⟩ := Kd.R_slice HW9.out
  subst e9
  cases so with
  | false =>
    go_wp2_with fail
    refine (laws_vInts.calls kE A7 c7 DS A9 c9 DS true _ (by repeat first | exact (R_C HP7.out) | with_reducible refine ca_ ?_ _ | with_reducible refine cn_ ?_ _ | with_reducible refine cd_ ?_) (R_cap HP7.out) (by repeat first | exact (R_C HW9.out) | with_reducible refine ca_ ?_ _ | with_reducible refine cn_ ?_ _ | with_reducible refine cd_ ?_) (R_cap HW9.out) HE.out).mono ?_
    rintro e w5 ⟨rfl, hb0⟩
    have hb := db_ hb0
    clear hb0
    replace HP7 := am_ (Kd.R_below (by (with_reducible repeat first | apply ra_ | apply rn_ | apply rd_); exact HP7.out) hb); replace HW9 := am_ (Kd.R_below (by (with_reducible repeat first | apply ra_ | apply rn_ | apply rd_); exact HW9.out) hb); replace HB := am_ (below_step (by repeat first | (with_reducible first | exact HB.out | apply ba_ | apply bn_ | apply bd_) | exact HB.out) hb); clear hb
    go_wp2_with fail
    refine (laws_vInts.calls kE A7 c7 DS A9 c9 DS true _ (by repeat first | exact (R_C HP7.out) | with_reducible refine ca_ ?_ _ | with_reducible refine cn_ ?_ _ | with_reducible refine cd_ ?_) (R_cap HP7.out) (by repeat first | exact (R_C HW9.out) | with_reducible refine ca_ ?_ _ | with_reducible refine cn_ ?_ _ | with_reducible refine cd_ ?_) (R_cap HW9.out) HE.out).mono ?_
    rintro e w6 ⟨rfl, hb0⟩
    have hb := db_ hb0
    clear hb0
    replace HP7 := am_ (Kd.R_below (by (with_reducible repeat first | apply ra_ | apply rn_ | apply rd_); exact HP7.out) hb); replace HW9 := am_ (Kd.R_below (by (with_reducible repeat first | apply ra_ | apply rn_ | apply rd_); exact HW9.out) hb); replace HB := am_ (below_step (by repeat first | (with_reducible first | exact HB.out | apply ba_ | apply bn_ | apply bd_) | exact HB.out) hb); clear hb
    go_wp2
    go_ret
    exact ⟨rfl, (by repeat first | (with_reducible first | exact HB.out | apply ba_ | apply bn_ | apply bd_) | exact HB.out)⟩
  | true =>
    have hgo : ((0 ≤ a ∧ a ≤ 36524) ∧ (0 ≤ b ∧ b ≤ 36524) ∧ a < b ∧ (1 ≤ m ∧ m ≤ 120)) ∧ (regS a b m bk).length ≤ 39 ∧ DS = a :: (regM a b m bk ++ [b]) := by
      have h := HRA.out
      unfold regA at h
      split at h
      · rename_i c
        split at h
        · rename_i c2
          exact ⟨c, c2, by injection h⟩
        · cases h
      · cases h
    have HG := am_ hgo.1
    obtain ⟨L, hL⟩ : ∃ L, L = (regS a b m bk).length := ⟨_, rfl⟩
    have hml : (regM a b m bk).length = L := by rw [hL]; unfold regM; split <;> simp
    have hdl : DS.length = L + 2 := by rw [hgo.2.2]; simp [hml]
    have hl39 : L ≤ 39 := by rw [hL]; exact hgo.2.1
    have HDL := am_ hdl
    have HSORT := am_ (show ∀ j : Nat, j + 1 < DS.length → DS.getD j 0 < DS.getD (j + 1) 0 from fun j hj => by
      have hp := (regM_sorted (back := bk) hgo.1).1
      rw [← hgo.2.2, List.pairwise_iff_getElem] at hp
      have := hp j (j + 1) (by omega) hj (by omega)
      rw [List.getD_eq_getElem?_getD, List.getD_eq_getElem?_getD, List.getElem?_eq_getElem hj, List.getElem?_eq_getElem (show j < DS.length by omega)]
      exact this)
    have HFST := am_ (show DS.getD 0 0 = a from by rw [hgo.2.2]; rfl)
    have HLST := am_ (show DS.getD (L + 1) 0 = b from by
      rw [hgo.2.2, List.getD_eq_getElem?_getD, List.getElem?_cons_succ, List.getElem?_append_right (by omega), hml, Nat.sub_self]; rfl)
    have HAT := am_ (show ∀ i : Nat, 1 ≤ i → i ≤ L → (if bk then regD b (-m) (L + 1 - i) else regD a m i) = (DS.getD i 0, true) from fun i h1 h2 => by
      obtain ⟨x, hx, he⟩ := reg_at (a := a) (b := b) (m := m) (back := bk) h1 (by rw [← hL]; exact h2)
      rw [← hL] at he
      rw [he, hgo.2.2, List.getD_eq_getElem?_getD, hx]; rfl)
    clear hgo hL hml hrl hdl
    obtain ⟨b7, e7⟩ := R_head HP7.out (by have := HDL.out; omega)
    subst e7
    go_wp2_with fail
    refine (laws_vInts.calls kE (some ⟨b7, 0, none⟩) c7 DS A9 c9 DS true _ (by repeat first | exact (R_C HP7.out) | with_reducible refine ca_ ?_ _ | with_reducible refine cn_ ?_ _ | with_reducible refine cd_ ?_) (R_cap HP7.out) (by repeat first | exact (R_C HW9.out) | with_reducible refine ca_ ?_ _ | with_reducible refine cn_ ?_ _ | with_reducible refine cd_ ?_) (R_cap HW9.out) HE.out).mono ?_
    rintro e w5 ⟨rfl, hb0⟩
    have hb := db_ hb0
    clear hb0
    replace HP7 := am_ (Kd.R_below (by (with_reducible repeat first | apply ra_ | apply rn_ | apply rd_); exact HP7.out) hb); replace HB := am_ (below_step (by repeat first | (with_reducible first | exact HB.out | apply ba_ | apply bn_ | apply bd_) | exact HB.out) hb); clear hb
    clear HW9
    go_wp2_with fail
    go_loopw [11] (fun v11 wr => ∃ j : Nat, v11 = .int .i64 ((j : Int) + 1) ∧ Aside0 (j ≤ L + 1) ∧ Aside0 (Below w5.heap.size w5 wr)) (fun v11 _ => 100 - (intOf v11).toNat)
    case atStart => exact ⟨0, rfl, ⟨Nat.zero_le _⟩, ⟨(by repeat first | (with_reducible first | exact (Below.refl _ _) | apply ba_ | apply bn_ | apply bd_) | exact (Below.refl _ _))⟩⟩
    case round =>
      obtain ⟨j, rfl, HJ, HL⟩ := hrel
      have hjl := HJ.out
      have hdl := HDL.out
      by_cases hj : j < L + 1
      · have c1 : decide ((j : Int) + 1 < (DS.length : Int)) = true := decide_eq_true (by omega)
        have hlt := HSORT.out j (by omega)
        obtain ⟨X, hX⟩ : ∃ X, X = DS.getD j 0 := ⟨_, rfl⟩
        obtain ⟨Y, hY⟩ : ∃ X, X = DS.getD (j + 1) 0 := ⟨_, rfl⟩
        rw [← hX, ← hY] at hlt
        have hx : w5.cell? ⟨b7, j, none⟩ = some (.int .i64 X) := by
          have h := cellsOfD (R_C HP7.out) j (by omega)
          rw [Nat.zero_add, ← hX] at h
          exact h
        have hy : w5.cell? ⟨b7, j + 1, none⟩ = some (.int .i64 Y) := by
          have h := cellsOfD (R_C HP7.out) (j + 1) (by omega)
          rw [Nat.zero_add, ← hY] at h
          exact h
        have CX := am_ hx
        have CY := am_ hy
        have q0 : (0 : Int) ≤ (j : Int) := by omega
        have q1 : (j : Int) < (DS.length : Int) := by omega
        have q2 : (0 : Int) ≤ (j : Int) + 1 := by omega
        have q3 : (j : Int) + 1 < (DS.length : Int) := by omega
        have tn : ((j : Int) + 1).toNat = j + 1 := by omega
        have tm : (j : Int).toNat = j := Int.toNat_natCast j
        have d1 : decide (Y ≤ X) = false := decide_eq_false (by omega)
        clear hx hy hX hY hlt
        go_upto_region 11 with (fail)
        go_cut [76] from 67 to 76 (fun vc wx => vc = .bool false ∧ Aside0 (Below w5.heap.size w5 wx))
        case first =>
          have hX1 := (HL.out.cell (World.block_lt_of_cell? w5 _ CX.out)).trans CX.out
          have hY1 := (HL.out.cell (World.block_lt_of_cell? w5 _ CY.out)).trans CY.out
          go_quiet (fail)
          go_wp2
          go_meet
          exact ⟨rfl, ⟨(by repeat first | (with_reducible first | exact HL.out | apply ba_ | apply bn_ | apply bd_) | exact HL.out)⟩⟩
        case rest =>
          clear HL
          obtain ⟨rfl, HL⟩ := hcut
          go_wp2
          go_roundw
          case rel => exact ⟨j + 1, by go_num, ⟨by omega⟩, ⟨(by repeat first | (with_reducible first | exact HL.out | apply ba_ | apply bn_ | apply bd_) | exact HL.out)⟩⟩
          case measure => simp [intOf]; omega
      · have c1 : decide ((j : Int) + 1 < (DS.length : Int)) = false := decide_eq_false (by omega)
        clear hj
        have hf : w5.cell? ⟨b7, 0, none⟩ = some (.int .i64 a) := by
          have h := cellsOfD (R_C HP7.out) 0 (by omega)
          rw [Nat.zero_add, HFST.out] at h
          exact h
        have hg : w5.cell? ⟨b7, L + 1, none⟩ = some (.int .i64 b) := by
          have h := cellsOfD (R_C HP7.out) (L + 1) (by omega)
          rw [Nat.zero_add, HLST.out] at h
          exact h
        have hX1 := (HL.out.cell (World.block_lt_of_cell? w5 _ hf)).trans hf
        have hY1 := (HL.out.cell (World.block_lt_of_cell? w5 _ hg)).trans hg
        have c2 : decide ((DS.length : Int) < 2) = false := decide_eq_false (by omega)
        have c3 : decide (DS.length < 2) = false := decide_eq_false (by omega)
        have z0 : (0 : Int) < (DS.length : Int) := by omega
        have z1 : (0 : Int) ≤ (DS.length : Int) - 1 := by omega
        have z2 : (DS.length : Int) - 1 < (DS.length : Int) := by omega
        have z3 : ((DS.length : Int) - 1).toNat = L + 1 := by omega
        have z4 : DS.length - 1 = L + 1 := by omega
        have e1 : (a != a) = false := by simp
        have e2 : (b != b) = false := by simp
        clear hf hg hdl hjl
        cases bk with
        | false =>
          -- HEREF
          go_wp2_with fail
          go_loopw [12] (fun v12 wr => ∃ j : Nat, v12 = .int .i64 ((j : Int) + 1) ∧ Aside0 (j ≤ L) ∧ Aside0 (Below w5.heap.size w5 wr)) (fun v12 _ => 100 - (intOf v12).toNat)
          case atStart => exact ⟨0, rfl, ⟨Nat.zero_le _⟩, ⟨(by repeat first | (with_reducible first | exact HL.out | apply ba_ | apply bn_ | apply bd_) | exact HL.out)⟩⟩
          case round =>
            clear HL
            obtain ⟨j, rfl, HJ, HL⟩ := hrel
            have hjl := HJ.out
            have hdl := HDL.out
            by_cases hj : j < L
            · have c1 : decide ((j : Int) + 1 + 1 < (DS.length : Int)) = true := decide_eq_true (by omega)
              have c1b : decide ((j : Int) + 2 < (DS.length : Int)) = true := decide_eq_true (by omega)
              have hat := HAT.out (j + 1) (by omega) (by omega)
              have hmc := mulC2 (k := j + 1) (s := m) (by omega) HG.out.2.2.2
              have hm0 : 0 ≤ ((j : Int) + 1) * m := hmc.1
              have hm1 : ((j : Int) + 1) * m ≤ 4800 := hmc.2
              obtain ⟨kf, hkf⟩ := roundsOf (specAddM_ev HG.out.1 (((j : Int) + 1) * m))
              obtain ⟨X, hX⟩ : ∃ X, X = DS.getD (j + 1) 0 := ⟨_, rfl⟩
              rw [← hX] at hat
              have hy : w5.cell? ⟨b7, j + 1, none⟩ = some (.int .i64 X) := by
                have h := cellsOfD (R_C HP7.out) (j + 1) (by omega)
                rw [Nat.zero_add, ← hX] at h
                exact h
              have CX := am_ hy
              have q0 : (0 : Int) ≤ (j : Int) + 1 := by omega
              have q1 : (j : Int) + 1 < (DS.length : Int) := by omega
              have tn : ((j : Int) + 1).toNat = j + 1 := by omega
              have d1 : (X != X) = false := by simp
              clear hy hX hmc
              rw [if_neg (by simp)] at hat
              rw [show addD (dateC a).1 (dateC a).2.1 (dateC a).2.2 (((j : Int) + 1) * m) = regD a m (j + 1) from rfl, hat] at hkf
              have HKF := am_ hkf
              clear hat hkf hdl hjl
              go_wp2_with fail
              refine (spec_AddMonths.calls kf a (((j : Int) + 1) * m) X true _ HKF.out).mono ?_
              rintro e w6 ⟨rfl, hb⟩
              have n_ := am_ (below_step (show Below w5.heap.size w5 _ from (by repeat first | (with_reducible first | exact HL.out | apply ba_ | apply bn_ | apply bd_) | exact HL.out)) hb)
              clear HL hb
              have HL := n_
              clear n_
              have hX1 := (HL.out.cell (World.block_lt_of_cell? w5 _ CX.out)).trans CX.out
              go_wp2
              go_roundw
              case rel => exact ⟨j + 1, by go_num, ⟨by omega⟩, ⟨(by repeat first | (with_reducible first | exact HL.out | apply ba_ | apply bn_ | apply bd_) | exact HL.out)⟩⟩
              case measure => simp [intOf]; omega
            · have c1 : decide ((j : Int) + 1 + 1 < (DS.length : Int)) = false := decide_eq_false (by omega)
              have c1b : decide ((j : Int) + 2 < (DS.length : Int)) = false := decide_eq_false (by omega)
              have hj40 : j ≤ 40 := by omega
              have hj41 : (j : Int) ≤ 40 := by omega
              clear hj hdl hjl
              go_wp2
              go_ret
              exact ⟨rfl, below_step ((by repeat first | (with_reducible first | exact HB.out | apply ba_ | apply bn_ | apply bd_) | exact HB.out)) ((by repeat first | (with_reducible first | exact HL.out | apply ba_ | apply bn_ | apply bd_) | exact HL.out))⟩
        | true =>
          go_wp2_with fail
          go_loopw [12] (fun v12 wr => ∃ j : Nat, v12 = .int .i64 ((j : Int) + 1) ∧ Aside0 (j ≤ L) ∧ Aside0 (Below w5.heap.size w5 wr)) (fun v12 _ => 100 - (intOf v12).toNat)
          case atStart => exact ⟨0, rfl, ⟨Nat.zero_le _⟩, ⟨(by repeat first | (with_reducible first | exact HL.out | apply ba_ | apply bn_ | apply bd_) | exact HL.out)⟩⟩
          case round =>
            clear HL
            obtain ⟨j, rfl, HJ, HL⟩ := hrel
            have hjl := HJ.out
            have hdl := HDL.out
            by_cases hj : j < L
            · have c1 : decide ((j : Int) + 1 + 1 < (DS.length : Int)) = true := decide_eq_true (by omega)
              have c1b : decide ((j : Int) + 2 < (DS.length : Int)) = true := decide_eq_true (by omega)
              have hat := HAT.out (j + 1) (by omega) (by omega)
              have hmc := mulC2 (k := j + 1) (s := m) (by omega) HG.out.2.2.2
              have hm0 : 0 ≤ ((j : Int) + 1) * m := hmc.1
              have hm1 : ((j : Int) + 1) * m ≤ 4800 := hmc.2
              obtain ⟨kf, hkf⟩ := roundsOf (specAddM_ev HG.out.1 (((j : Int) + 1) * m))
              obtain ⟨X, hX⟩ : ∃ X, X = DS.getD (j + 1) 0 := ⟨_, rfl⟩
              rw [← hX] at hat
              have hy : w5.cell? ⟨b7, j + 1, none⟩ = some (.int .i64 X) := by
                have h := cellsOfD (R_C HP7.out) (j + 1) (by omega)
                rw [Nat.zero_add, ← hX] at h
                exact h
              have CX := am_ hy
              have q0 : (0 : Int) ≤ (j : Int) + 1 := by omega
              have q1 : (j : Int) + 1 < (DS.length : Int) := by omega
              have tn : ((j : Int) + 1).toNat = j + 1 := by omega
              have d1 : (X != X) = false := by simp
              clear hy hX hmc
              have hmb := mulC2 (k := L - j) (s := m) (by omega) HG.out.2.2.2
              have hen : ((j : Int) + 1 + 1 - (DS.length : Int)) = -((L - j : Nat) : Int) := by omega
              have hm2 : -4800 ≤ ((j : Int) + 1 + 1 - (DS.length : Int)) * m := by rw [hen, Int.neg_mul]; omega
              have hm3 : ((j : Int) + 1 + 1 - (DS.length : Int)) * m ≤ 0 := by rw [hen, Int.neg_mul]; omega
              obtain ⟨kb, hkb⟩ := roundsOf (specAddM_ev HG.out.2.1 (((j : Int) + 1 + 1 - (DS.length : Int)) * m))
              rw [show addD (dateC b).1 (dateC b).2.1 (dateC b).2.2 (((j : Int) + 1 + 1 - (DS.length : Int)) * m) = regD b (-m) (L + 1 - (j + 1)) from by rw [regD, hen, Int.neg_mul, Int.mul_neg, show L + 1 - (j + 1) = L - j from by omega]] at hkb
              first | rw [if_pos trivial] at hat | rw [if_pos rfl] at hat
              rw [hat] at hkb
              obtain ⟨DF, hDF⟩ : ∃ D, D = addD (dateC a).1 (dateC a).2.1 (dateC a).2.2 (((j : Int) + 1) * m) := ⟨_, rfl⟩
              rw [← hDF] at hkf
              obtain ⟨df, of_⟩ := DF
              have HKF := am_ hkf
              have HKB := am_ hkb
              clear hat hkf hkb hDF hmb hen hdl hjl
              go_wp2_with fail
              refine (spec_AddMonths.calls kf a (((j : Int) + 1) * m) df of_ _ HKF.out).mono ?_
              rintro e w6 ⟨rfl, hb⟩
              have n_ := am_ (below_step (show Below w5.heap.size w5 _ from (by repeat first | (with_reducible first | exact HL.out | apply ba_ | apply bn_ | apply bd_) | exact HL.out)) hb)
              clear HL hb
              have HL := n_
              clear n_
              go_wp2_with fail
              refine (spec_AddMonths.calls kb b (((j : Int) + 1 + 1 - (DS.length : Int)) * m) X true _ HKB.out).mono ?_
              rintro e w7 ⟨rfl, hb⟩
              have n_ := am_ (below_step (show Below w5.heap.size w5 _ from (by repeat first | (with_reducible first | exact HL.out | apply ba_ | apply bn_ | apply bd_) | exact HL.out)) hb)
              clear HL hb
              have HL := n_
              clear n_
              have hX1 := (HL.out.cell (World.block_lt_of_cell? w5 _ CX.out)).trans CX.out
              go_wp2
              go_roundw
              case rel => exact ⟨j + 1, by go_num, ⟨by omega⟩, ⟨(by repeat first | (with_reducible first | exact HL.out | apply ba_ | apply bn_ | apply bd_) | exact HL.out)⟩⟩
              case measure => simp [intOf]; omega
            · have c1 : decide ((j : Int) + 1 + 1 < (DS.length : Int)) = false := decide_eq_false (by omega)
              have c1b : decide ((j : Int) + 2 < (DS.length : Int)) = false := decide_eq_false (by omega)
              have hj40 : j ≤ 40 := by omega
              have hj41 : (j : Int) ≤ 40 := by omega
              clear hj hdl hjl
              go_wp2
              go_ret
              exact ⟨rfl, below_step ((by repeat first | (with_reducible first | exact HB.out | apply ba_ | apply bn_ | apply bd_) | exact HB.out)) ((by repeat first | (with_reducible first | exact HL.out | apply ba_ | apply bn_ | apply bd_) | exact HL.out))⟩
end Go.Proofs.Ytlmdghcpcohamaa.O
