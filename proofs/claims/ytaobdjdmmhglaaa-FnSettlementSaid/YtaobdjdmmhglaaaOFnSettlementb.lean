/- Walks of our own, a part of those for the law FnSettlement: each function's contract in plain Lean. No condition beyond the bounds that each contract names. -/
import Derived.Test.YtaobdjdmmhglaaaPureFnSettlement
import Derived.Shelf.Slices.Clone
import Derived.Shelf.SlicesE.IndexFunc
import Derived.Shelf.Slices.Turned
import Derived.Shelf.Lays2
import Derived.Shelf.SlLaysH
import Derived.Shelf.Lays
import Derived.Test.YtaobdjdmmhglaaaOFnSettlementa
namespace Go.Proofs.Ytaobdjdmmhglaaa.O
open Go.RowKit Go.Proofs.YtaobdjdmmhglaaaW.PrintWords Go.Proofs.YtaobdjdmmhglaaaW.PrintLast Go.Proofs.YtaobdjdmmhglaaaW.PrintMore Go.Proofs.Ytaobdjdmmhglaaa.PL16T Go.Proofs.Ytaobdjdmmhglaaa.EvKit Go.Proofs.Ytaobdjdmmhglaaa.Pure
set_option linter.unusedVariables false
set_option linter.unusedSimpArgs false
attribute [local go_sem] max2_int min2_int max_two min_two max_three min_three max_four min_four
set_option maxHeartbeats 8000000 in
set_option maxRecDepth 100000 in
theorem togS_c (A0 : Option Addr) (c0 : Nat) (xs : List S54) (p : Int) (A2 : Option Addr) (c2 : Nat) (bal : List Int) (w : World) (hr0 : Kd.C k54 w A0 xs.length xs) (hc0 : xs.length ≤ c0) (ha0 : 0 < xs.length → ∃ b, A0 = some ⟨b, 0, none⟩) (hn : xs.length ≤ 1048576) (hr2 : (Kd.int .i64).C w A2 bal.length bal) (hc2 : bal.length ≤ c2) (ha2 : 0 < bal.length → ∃ b, A2 = some ⟨b, 0, none⟩) (hm : bal.length ≤ 1048576) :
    Calls Try.prog 34 #[.slice A0 xs.length c0, .int .i64 p, .slice A2 bal.length c2] w fun e w' => ∃ v, e = .returned (.tuple #[v, .bool (togA xs p bal).2]) ∧ (Kd.int .i64).R 3 w' w.heap.size (fun _ => True) v (togA xs p bal).1 ∧ Below w.heap.size w w' := by
  obtain ⟨kv, hv⟩ := roundsOf (specGoodC_ev xs p hn)
  obtain ⟨kb, hvb⟩ := roundsOf (specBal_ev bal p hm)
  obtain ⟨gc, hgc⟩ : ∃ q, q = goodC xs p := ⟨_, rfl⟩
  obtain ⟨gb, hgb⟩ : ∃ q, q = goodB bal p := ⟨_, rfl⟩
  rw [← hgc] at hv
  rw [← hgb] at hvb
  have HV := am_ hv
  have HVB := am_ hvb
  have HR0 := am_ hr0
  have HC0 := am_ hc0
  have HR2 := am_ hr2
  have HC2 := am_ hc2
  by_cases g : gc = true ∧ xs.length ≤ 10 ∧ gb = true
  · obtain ⟨rfl, hx10, rfl⟩ := g
    have gg := of_decide_eq_true hgc.symm
    have gg2 := of_decide_eq_true hgb.symm
    obtain ⟨⟨p1, p2⟩, hx20, hok, hsum⟩ := gg
    obtain ⟨m, rfl⟩ := Int.eq_ofNat_of_zero_le (show 0 ≤ p from by omega)
    have hbl : bal.length = m := by have := gg2.1; omega
    have hfin : togA xs m bal = (blF xs.length (bestOf xs bal) 0, true) := by unfold togA; rw [if_pos ⟨hgc.symm, hx10, hgb.symm⟩]
    obtain ⟨bb, rfl⟩ := ha2 (by omega)
    have HBL := am_ hbl
    rw [hfin]
    obtain ⟨N, hN⟩ : ∃ N, N = 2 ^ xs.length := ⟨_, rfl⟩
    have hN1 : 1 ≤ N := by rw [hN]; exact Nat.pow_pos (by decide)
    have hN2 : N ≤ 1024 := by rw [hN]; exact Nat.le_trans (Nat.pow_le_pow_right (by decide) hx10) (by decide)
    obtain ⟨best, hbe⟩ : ∃ b, b = bestOf xs bal := ⟨_, rfl⟩
    have hbN : best < N := by rw [hbe, hN]; exact bestOf_lt xs bal
    rw [← hbe]
    have HF := am_ (show (foldT xs bal (N - 1) 1 (0, 0)).1 = best from by rw [hbe, hN]; rfl)
    have HN := am_ hN
    have HOK := am_ hok
    have HSUM := am_ hsum
    have HBD := am_ gg2.2
    have HX20 := am_ hx20
    have m1 : 2 ≤ m := by omega
    have m2 : m ≤ 8 := by omega
    have cx : decide (10 < xs.length) = false := decide_eq_false (by omega)
    clear hv hvb hr0 hc0 hr2 hc2 hok hx20 hfin hsum ha0 p1 p2 gg2 ha2 hgc hgb hbl hN hbe
    go_enter Try.func34, Try.ntmps34
    go_wp2_with ((with_reducible refine gate_dst (N := 18) rfl ?_); refine Kd.R_lit (Kd.int .i64) w.heap.size 3 (w0 := w) ?hg (N := 18) ?hd (xs := []) (inner := []) (ok := fun _ => True) (okp := fun _ => True) ?hr ?hp (fun _ hk => hk) trivial (by repeat first | (with_reducible first | exact (Below.refl w.heap.size w) | apply ba_ | apply bn_ | apply bd_) | exact (Below.refl w.heap.size w)) (below_size (by repeat first | (with_reducible first | exact (Below.refl w.heap.size w) | apply ba_ | apply bn_ | apply bd_) | exact (Below.refl w.heap.size w))) (by simp) ?_; (case hd => rfl); (case hg => rfl); (case hr => first | (go_simp; done) | (go_simp; rfl)); (case hp => exact (Reps.none _ _)); intro v1 w1 ho hb hgr hnw)
    have HOUT := am_ ho
    have HB := am_ hb
    clear ho hb hgr hnw
    refine (spec_l16Good.calls kv _ _ xs _ true _ (by repeat first | exact (Kd.C_below HR0.out HB.out) | with_reducible refine ca_ ?_ _ | with_reducible refine cn_ ?_ _ | with_reducible refine cd_ ?_) HC0.out HV.out).mono ?_
    rintro e w2 ⟨rfl, hb⟩
    replace HOUT := am_ (Kd.R_below (by (with_reducible repeat first | apply ra_ | apply rn_ | apply rd_); exact HOUT.out) hb); replace HB := am_ (below_step (by repeat first | (with_reducible first | exact HB.out | apply ba_ | apply bn_ | apply bd_) | exact HB.out) hb); clear hb
    go_wp2_with fail
    refine (spec_l16Balances.calls kb _ _ bal _ true _ (by repeat first | exact (Kd.C_below HR2.out HB.out) | with_reducible refine ca_ ?_ _ | with_reducible refine cn_ ?_ _ | with_reducible refine cd_ ?_) HC2.out HVB.out).mono ?_
    rintro e w3 ⟨rfl, hb0⟩
    have hb := db_ hb0
    replace HOUT := am_ (Kd.R_below (by (with_reducible repeat first | apply ra_ | apply rn_ | apply rd_); exact HOUT.out) hb); replace HB := am_ (below_step (by repeat first | (with_reducible first | exact HB.out | apply ba_ | apply bn_ | apply bd_) | exact HB.out) hb); clear hb
    clear hb0
    have hNw : wrap64 (2 ^ xs.length) = (N : Int) := by
      rw [show (2 : Int) ^ xs.length = (N : Int) from by rw [HN.out]; simp]
      exact wrapId (by omega)
    have hu : IntKind.u64.wrap (xs.length : Int) = (xs.length : Int) := u64_small _ (by omega) (by omega)
    go_wp2
    go_loopw [9, 10, 11] (fun v9 v10 v11 wr => ∃ (s : Nat × Int) (v : Nat), v9 = .int .i64 s.1 ∧ v10 = .int .i64 s.2 ∧ v11 = .int .i64 v ∧ Aside0 (v ≤ N) ∧ Aside0 ((foldT xs bal (N - v) v s).1 = best) ∧ Aside0 (0 ≤ s.2 ∧ s.2 ≤ 1000000000) ∧ Aside0 ((Kd.int .i64).R 3 wr w.heap.size (fun _ => True) v1 []) ∧ Aside0 (Below w.heap.size w wr)) (fun _ _ v11 _ => N - (intOf v11).toNat)
    case atStart => exact ⟨(0, 0), 1, rfl, rfl, rfl, ⟨hN1⟩, HF, ⟨by decide⟩, HOUT, HB⟩
    case round =>
      clear HOUT HB HF
      obtain ⟨⟨s1, s2⟩, v, rfl, rfl, rfl, HVN, HF, HS, HOUT, HB⟩ := hrel
      by_cases hvN : v < N
      · have cv : decide (v < N) = true := decide_eq_true hvN
        go_wp2_with fail
        refine (set_c _ _ xs v _ (by repeat first | exact (Kd.C_below HR0.out HB.out) | with_reducible refine ca_ ?_ _ | with_reducible refine cn_ ?_ _ | with_reducible refine cd_ ?_) HC0.out HX20.out (by omega)).mono ?_
        rintro e w1 ⟨v12, rfl, ho, hb⟩
        have HP := am_ (Kd.R_lower ho (show w.heap.size ≤ _ from below_size HB.out))
        clear ho
        replace HOUT := am_ (Kd.R_below (by (with_reducible repeat first | apply ra_ | apply rn_ | apply rd_); exact HOUT.out) hb); replace HB := am_ (below_step (by repeat first | (with_reducible first | exact HB.out | apply ba_ | apply bn_ | apply bd_) | exact HB.out) hb); clear hb
        obtain ⟨P, hP⟩ : ∃ P, P = pickF xs v := ⟨_, rfl⟩
        rw [← hP] at HP
        have okP : ∀ a ∈ P, okC m a := fun a ha => HOK.out a (pickF_mem xs v a (by rw [← hP]; exact ha))
        have lenP : P.length ≤ 20 := by have := pickF_len xs v; have := HX20.out; rw [hP]; omega
        have sumP : sumC P ≤ 1000000000 := by have := pickF_sum xs v HOK.out; have := HSUM.out; rw [hP]; omega
        have HPE := am_ hP
        have OKP := am_ okP
        have SUMP := am_ sumP
        clear hP okP sumP
        obtain ⟨Ap, cp, hvp⟩ := Kd.R_slice HP.out
        subst hvp
        have HPC := am_ (R_cap HP.out)
        go_wp2_with fail
        refine (specPos_c _ _ P m _ (by repeat first | exact (R_C HP.out) | with_reducible refine ca_ ?_ _ | with_reducible refine cn_ ?_ _ | with_reducible refine cd_ ?_) HPC.out (by omega) lenP OKP.out).mono ?_
        rintro e w2 ⟨v13, rfl, ho, hb⟩
        obtain ⟨g, cap, hv13, hg1, hg2, cells, hg3⟩ := Kd.R_form ho (by rw [posFold_length, List.length_replicate]; omega)
        rw [posFold_length, List.length_replicate] at hv13
        subst hv13
        obtain ⟨T, hT⟩ : ∃ T, T = posFold (List.replicate m 0) P := ⟨_, rfl⟩
        rw [← hT] at ho
        obtain ⟨hT1, hT2⟩ := posFold_get P (List.replicate m 0) 0 OKP.out List.length_replicate (Int.le_refl 0) (by have := SUMP.out; omega) (fun x hx => by rw [List.eq_of_mem_replicate hx]; exact ⟨by decide, by decide⟩)
        rw [← hT] at hT1 hT2
        have HT1 := am_ (show ∀ j, j < m → T.getD j 0 = dsum P j from fun j hj => by rw [hT1 j hj, List.getD_eq_getElem?_getD, List.getElem?_replicate, if_pos hj]; exact Int.zero_add _)
        have HT2 := am_ (show ∀ x ∈ T, -1000000000 ≤ x ∧ x ≤ 1000000000 from fun x hx => by have := hT2 x hx; have := SUMP.out; omega)
        have HT := am_ (Kd.R_lower ho (show w.heap.size ≤ _ from below_size HB.out))
        have HTL := am_ (show T.length = m from by rw [hT, posFold_length, List.length_replicate])
        clear ho hT hT1 hT2 hg1 hg2 hg3 cells
        replace HOUT := am_ (Kd.R_below (by (with_reducible repeat first | apply ra_ | apply rn_ | apply rd_); exact HOUT.out) hb); replace HP := am_ (Kd.R_below (by (with_reducible repeat first | apply ra_ | apply rn_ | apply rd_); exact HP.out) hb); replace HB := am_ (below_step (by repeat first | (with_reducible first | exact HB.out | apply ba_ | apply bn_ | apply bd_) | exact HB.out) hb); clear hb
        go_wp2
        go_loopw [14, 15] (fun v14 v15 wr => ∃ i : Nat, v14 = .bool (decide (∀ j, j < i → 0 ≤ bal.getD j 0 + dsum P j)) ∧ v15 = .int .i64 i ∧ Aside0 (i ≤ m) ∧ Aside0 ((Kd.int .i64).R 3 wr w.heap.size (fun _ => True) (.slice (some ⟨g, 0, none⟩) m cap) T) ∧ Aside0 (Kd.R k54 54 wr w.heap.size (fun _ => True) (.slice Ap P.length cp) P) ∧ Aside0 ((Kd.int .i64).R 3 wr w.heap.size (fun _ => True) v1 []) ∧ Aside0 (Below w.heap.size w wr)) (fun _ v15 _ => m - (intOf v15).toNat)
        case atStart => exact ⟨0, by rw [decide_eq_true (fun j hj => absurd hj (Nat.not_lt_zero j))], rfl, ⟨Nat.zero_le _⟩, HT, HP, HOUT, HB⟩
        case round =>
          clear HT HP HOUT HB
          obtain ⟨i, rfl, rfl, HI, HT, HP, HOUT, HB⟩ := hrel
          by_cases him : i < m
          · have ci : decide (i < m) = true := decide_eq_true him
            obtain ⟨x, hxe⟩ : ∃ x, x = bal.getD i 0 := ⟨_, rfl⟩
            obtain ⟨y, hye⟩ : ∃ y, y = T.getD i 0 := ⟨_, rfl⟩
            have hil : i < bal.length := by rw [HBL.out]; exact him
            have qi : (i : Int) < (m : Int) := by omega
            have qb : (i : Int) < (bal.length : Int) := by omega
            have bx : 0 ≤ x ∧ x ≤ 1000000000 := by rw [hxe]; exact HBD.out _ (getD_memT hil)
            have by_ : -1000000000 ≤ y ∧ y ≤ 1000000000 := by rw [hye]; exact HT2.out _ (getD_memT (by rw [HTL.out]; exact him))
            have hcx := cellsOfD HR2.out i hil
            rw [Nat.zero_add, ← hxe] at hcx
            replace hcx := (HB.out.cell (World.block_lt_of_cell? w _ hcx)).trans hcx
            have hcy := (Kd.R_celln 0 HT.out (i : Int) (by omega) qi).1
            rw [Int.toNat_natCast, show rdOf 0 T (i : Int) = y from by rw [rdOf, Int.toNat_natCast, hye]] at hcy
            have hsplit : decide (∀ j, j < i + 1 → 0 ≤ bal.getD j 0 + dsum P j) = (decide (∀ j, j < i → 0 ≤ bal.getD j 0 + dsum P j) && decide (0 ≤ bal.getD i 0 + dsum P i)) := all_succ (fun j => 0 ≤ bal.getD j 0 + dsum P j) i
            rw [← hxe, ← HT1.out i him, ← hye] at hsplit
            have HSP := am_ hsplit
            obtain ⟨fi, hfi⟩ : ∃ f, f = decide (∀ j, j < i → 0 ≤ bal.getD j 0 + dsum P j) := ⟨_, rfl⟩
            rw [← hfi] at hsplit ⊢
            have HSP := am_ hsplit
            have HIM := am_ him
            clear hsplit hxe hye hil hfi
            cases fi with
            | false =>
              go_upto_region 14 with (fail)
              go_region
              clear hcx hcy
              go_wp2
              go_roundw
              case rel => exact ⟨i + 1, by rw [HSP.out]; rfl, by go_num, ⟨HIM.out⟩, ⟨(by (with_reducible repeat first | apply ra_ | apply rn_ | apply rd_); exact HT.out)⟩, ⟨(by (with_reducible repeat first | apply ra_ | apply rn_ | apply rd_); exact HP.out)⟩, ⟨(by (with_reducible repeat first | apply ra_ | apply rn_ | apply rd_); exact HOUT.out)⟩, ⟨(by repeat first | (with_reducible first | exact HB.out | apply ba_ | apply bn_ | apply bd_) | exact HB.out)⟩⟩
              case measure => simp [intOf]; omega
            | true =>
              by_cases cs : 0 ≤ x + y
              · have csb : decide (0 ≤ x + y) = true := decide_eq_true cs
                have HC := am_ csb
                clear cs
                go_upto_region 14 with (fail)
                go_region
                clear hcx hcy
                go_wp2
                go_roundw
                case rel => exact ⟨i + 1, by rw [HSP.out, HC.out]; rfl, by go_num, ⟨HIM.out⟩, ⟨(by (with_reducible repeat first | apply ra_ | apply rn_ | apply rd_); exact HT.out)⟩, ⟨(by (with_reducible repeat first | apply ra_ | apply rn_ | apply rd_); exact HP.out)⟩, ⟨(by (with_reducible repeat first | apply ra_ | apply rn_ | apply rd_); exact HOUT.out)⟩, ⟨(by repeat first | (with_reducible first | exact HB.out | apply ba_ | apply bn_ | apply bd_) | exact HB.out)⟩⟩
                case measure => simp [intOf]; omega
              · have csb : decide (0 ≤ x + y) = false := decide_eq_false cs
                have HC := am_ csb
                clear cs
                go_upto_region 14 with (fail)
                go_region
                clear hcx hcy
                go_wp2
                go_roundw
                case rel => exact ⟨i + 1, by rw [HSP.out, HC.out]; rfl, by go_num, ⟨HIM.out⟩, ⟨(by (with_reducible repeat first | apply ra_ | apply rn_ | apply rd_); exact HT.out)⟩, ⟨(by (with_reducible repeat first | apply ra_ | apply rn_ | apply rd_); exact HP.out)⟩, ⟨(by (with_reducible repeat first | apply ra_ | apply rn_ | apply rd_); exact HOUT.out)⟩, ⟨(by repeat first | (with_reducible first | exact HB.out | apply ba_ | apply bn_ | apply bd_) | exact HB.out)⟩⟩
                case measure => simp [intOf]; omega
          · obtain rfl : m = i := by have := HI.out; omega
            have ci : decide (m < m) = false := decide_eq_false (by omega)
            have hfit : decide (∀ j, j < m → 0 ≤ bal.getD j 0 + dsum P j) = fitB bal P := by unfold fitB; rw [HBL.out]
            rw [hfit]
            have hstep : foldT xs bal (N - v) v (s1, s2) = foldT xs bal (N - (v + 1)) (v + 1) (if fitB bal P = true ∧ s2 < sumC P then (v, sumC P) else (s1, s2)) := by
              rw [show N - v = (N - (v + 1)) + 1 from by omega, foldT, show stepTg xs bal (s1, s2) v = (if fitB bal P = true ∧ s2 < sumC P then (v, sumC P) else (s1, s2)) from by rw [HPE.out]; rfl]
            have hF := HF.out
            rw [hstep] at hF
            obtain ⟨kg, hg⟩ := roundsOf (specGross_ev (m : Int) P lenP OKP.out)
            have hS := HS.out
            have hsp := SUMP.out
            obtain ⟨sm, hsm⟩ : ∃ q, q = sumC P := ⟨_, rfl⟩
            obtain ⟨ff, hff⟩ : ∃ q, q = fitB bal P := ⟨_, rfl⟩
            rw [← hsm, ← hff] at hF
            rw [← hff]
            rw [← hsm] at hsp hg
            have HG := am_ hg
            have hg0 : 0 ≤ sm := by rw [hsm]; exact (sumC_bd P OKP.out).1
            clear hfit hstep hg hff hsm
            go_upto_region 15 with (fail)
            go_wp2_with fail
            refine (spec_l16Gross.calls kg _ _ P _ _ (by repeat first | exact (R_C HP.out) | with_reducible refine ca_ ?_ _ | with_reducible refine cn_ ?_ _ | with_reducible refine cd_ ?_) HPC.out HG.out).mono ?_
            rintro e w3 ⟨rfl, hb0⟩
            have hb := db_ hb0
            replace HOUT := am_ (Kd.R_below (by (with_reducible repeat first | apply ra_ | apply rn_ | apply rd_); exact HOUT.out) hb); replace HB := am_ (below_step (by repeat first | (with_reducible first | exact HB.out | apply ba_ | apply bn_ | apply bd_) | exact HB.out) hb); clear hb
            clear hb0 HT HP
            cases ff with
            | false =>
              rw [if_neg (by simp)] at hF
              have HF1 := am_ hF
              clear hF
              go_wp2
              go_roundw
              case rel => exact ⟨(s1, s2), v + 1, rfl, rfl, by go_num, ⟨hvN⟩, HF1, HS, ⟨(by (with_reducible repeat first | apply ra_ | apply rn_ | apply rd_); exact HOUT.out)⟩, ⟨(by repeat first | (with_reducible first | exact HB.out | apply ba_ | apply bn_ | apply bd_) | exact HB.out)⟩⟩
              case measure => simp [intOf]; omega
            | true =>
              by_cases cg : s2 < sm
              · have cgb : decide (s2 < sm) = true := decide_eq_true cg
                rw [if_pos ⟨rfl, cg⟩] at hF
                have HF1 := am_ hF
                clear hF cg
                go_wp2
                go_roundw
                case rel => exact ⟨(v, sm), v + 1, rfl, rfl, by go_num, ⟨hvN⟩, HF1, ⟨⟨hg0, hsp⟩⟩, ⟨(by (with_reducible repeat first | apply ra_ | apply rn_ | apply rd_); exact HOUT.out)⟩, ⟨(by repeat first | (with_reducible first | exact HB.out | apply ba_ | apply bn_ | apply bd_) | exact HB.out)⟩⟩
                case measure => simp [intOf]; omega
              · have cgb : decide (s2 < sm) = false := decide_eq_false cg
                rw [if_neg (fun q => cg q.2)] at hF
                have HF1 := am_ hF
                clear hF cg
                go_wp2
                go_roundw
                case rel => exact ⟨(s1, s2), v + 1, rfl, rfl, by go_num, ⟨hvN⟩, HF1, HS, ⟨(by (with_reducible repeat first | apply ra_ | apply rn_ | apply rd_); exact HOUT.out)⟩, ⟨(by repeat first | (with_reducible first | exact HB.out | apply ba_ | apply bn_ | apply bd_) | exact HB.out)⟩⟩
                case measure => simp [intOf]; omega
      · obtain rfl : N = v := by have := HVN.out; omega
        have cv : decide (N < N) = false := decide_eq_false (by omega)
        have hF := HF.out
        rw [Nat.sub_self] at hF
        obtain rfl : s1 = best := hF
        clear HF HVN
        go_wp2
        go_loopw [8, 17] (fun v8 v17 wr => ∃ (i : Nat) (out : List Int), v17 = .int .i64 i ∧ Aside0 (i ≤ xs.length) ∧ Aside0 (out ++ blF (xs.length - i) (s1 / 2 ^ i) i = blF xs.length s1 0) ∧ Aside0 (out.length ≤ i) ∧ Aside0 ((Kd.int .i64).R 3 wr w.heap.size (fun _ => True) v8 out) ∧ Aside0 (Below w.heap.size w wr)) (fun _ v17 _ => xs.length - (intOf v17).toNat)
        case atStart => exact ⟨0, [], rfl, ⟨Nat.zero_le _⟩, ⟨by simp⟩, ⟨by simp⟩, HOUT, HB⟩
        case round =>
          clear HOUT HB
          obtain ⟨i, out, rfl, HI, HE, HL, HOUT, HB⟩ := hrel
          by_cases hi : i < xs.length
          · have ci : decide (i < xs.length) = true := decide_eq_true hi
            have hui : IntKind.u64.wrap (i : Int) = (i : Int) := u64_small _ (by omega) (by omega)
            have hE := HE.out
            have hol : out.length ≤ 10 := by have := HL.out; omega
            rw [show xs.length - i = (xs.length - (i + 1)) + 1 from by omega, blF, ← div_pow_succ] at hE
            by_cases hbt : s1 / 2 ^ i % 2 = 1
            · have hbit := bit_one (v := s1) (i := i) (by omega) hbt
              rw [if_pos hbt, ← List.append_assoc] at hE
              have HE1 := am_ hE
              clear hE hbt
              go_wp2_with ((with_reducible refine gate_builtin (b := .append) (xs := #[.tmp 89, .tmp 91]) rfl ?_); at_builtin; refine Kd.R_append (Kd.int .i64) (w0 := w) w.heap.size rfl (.tmp 89) (.tmp 91) 31 3 (.int .i64 0) 8 rfl Try.underlying31 infoI rfl (by decide) (by omega) u8 out (i : Int) [.int .i64 i] (fun _ => True) (fun _ => False) rfl rfl ?aP (fun _ hk => hk.elim) ?aF ?aO ?aB ?aS ?aL ?_; (case aP => exact rfl); (case aB => exact (by repeat first | (with_reducible first | exact HB.out | apply ba_ | apply bn_ | apply bd_) | exact HB.out)); (case aF => exact (fun _ _ => trivial)); (case aO => exact (by (with_reducible repeat first | apply ra_ | apply rn_ | apply rd_); exact HOUT.out)); (case aS => exact (below_size (by repeat first | (with_reducible first | exact HB.out | apply ba_ | apply bn_ | apply bd_) | exact HB.out))); (case aL => omega); intro v1 w1 ho hb hg hat)
              go_roundw
              case rel => exact ⟨i + 1, out ++ [(i : Int)], by go_num, ⟨hi⟩, HE1, ⟨by rw [List.length_append, List.length_singleton]; have := HL.out; omega⟩, ⟨(by (with_reducible repeat first | apply ra_ | apply rn_ | apply rd_); exact ho)⟩, ⟨(by repeat first | (with_reducible first | exact hb | apply ba_ | apply bn_ | apply bd_) | exact hb)⟩⟩
              case measure => simp [intOf]; omega
            · have hbit := bit_zero (v := s1) (i := i) (by omega) hbt
              rw [if_neg hbt, List.nil_append] at hE
              have HE1 := am_ hE
              clear hE hbt
              go_wp2
              go_roundw
              case rel => exact ⟨i + 1, out, by go_num, ⟨hi⟩, HE1, ⟨by have := HL.out; omega⟩, ⟨(by (with_reducible repeat first | apply ra_ | apply rn_ | apply rd_); exact HOUT.out)⟩, ⟨(by repeat first | (with_reducible first | exact HB.out | apply ba_ | apply bn_ | apply bd_) | exact HB.out)⟩⟩
              case measure => simp [intOf]; omega
          · obtain rfl : xs.length = i := by have := HI.out; omega
            have ci : decide (xs.length < xs.length) = false := decide_eq_false (by omega)
            have hE := HE.out
            rw [Nat.sub_self, blF, List.append_nil] at hE
            have HE1 := am_ hE
            clear hE
            go_wp2
            go_ret2
            rw [← HE1.out]
            exact ⟨_, rfl, (by (with_reducible repeat first | apply ra_ | apply rn_ | apply rd_); exact HOUT.out), (by repeat first | (with_reducible first | exact HB.out | apply ba_ | apply bn_ | apply bd_) | exact HB.out)⟩
  · have hfin : togA xs p bal = ([], false) := by unfold togA; rw [if_neg (by rw [← hgc, ← hgb]; exact g)]
    rw [hfin]
    cases gc with
    | false =>
      clear hfin ha0 ha2 hgc hgb g hvb hv hr0 hc0 hr2 hc2
      go_enter Try.func34, Try.ntmps34
      go_wp2_with ((with_reducible refine gate_dst (N := 18) rfl ?_); refine Kd.R_lit (Kd.int .i64) w.heap.size 3 (w0 := w) ?hg (N := 18) ?hd (xs := []) (inner := []) (ok := fun _ => True) (okp := fun _ => True) ?hr ?hp (fun _ hk => hk) trivial (by repeat first | (with_reducible first | exact (Below.refl w.heap.size w) | apply ba_ | apply bn_ | apply bd_) | exact (Below.refl w.heap.size w)) (below_size (by repeat first | (with_reducible first | exact (Below.refl w.heap.size w) | apply ba_ | apply bn_ | apply bd_) | exact (Below.refl w.heap.size w))) (by simp) ?_; (case hd => rfl); (case hg => rfl); (case hr => first | (go_simp; done) | (go_simp; rfl)); (case hp => exact (Reps.none _ _)); intro v1 w1 ho hb hgr hnw)
      have HOUT := am_ ho
      have HB := am_ hb
      clear ho hb hgr hnw
      refine (spec_l16Good.calls kv _ _ xs _ false _ (by repeat first | exact (Kd.C_below HR0.out HB.out) | with_reducible refine ca_ ?_ _ | with_reducible refine cn_ ?_ _ | with_reducible refine cd_ ?_) HC0.out HV.out).mono ?_
      rintro e w2 ⟨rfl, hb⟩
      replace HOUT := am_ (Kd.R_below (by (with_reducible repeat first | apply ra_ | apply rn_ | apply rd_); exact HOUT.out) hb); replace HB := am_ (below_step (by repeat first | (with_reducible first | exact HB.out | apply ba_ | apply bn_ | apply bd_) | exact HB.out) hb); clear hb
      go_wp2
      go_ret2
      exact ⟨_, rfl, (by (with_reducible repeat first | apply ra_ | apply rn_ | apply rd_); exact HOUT.out), (by repeat first | (with_reducible first | exact HB.out | apply ba_ | apply bn_ | apply bd_) | exact HB.out)⟩
    | true =>
      by_cases hx10 : xs.length ≤ 10
      · have cx : decide (10 < xs.length) = false := decide_eq_false (by omega)
        cases gb with
        | true => exact absurd ⟨rfl, hx10, rfl⟩ g
        | false =>
          clear hfin ha0 ha2 hgc hgb g hvb hv hr0 hc0 hr2 hc2
          go_enter Try.func34, Try.ntmps34
          go_wp2_with ((with_reducible refine gate_dst (N := 18) rfl ?_); refine Kd.R_lit (Kd.int .i64) w.heap.size 3 (w0 := w) ?hg (N := 18) ?hd (xs := []) (inner := []) (ok := fun _ => True) (okp := fun _ => True) ?hr ?hp (fun _ hk => hk) trivial (by repeat first | (with_reducible first | exact (Below.refl w.heap.size w) | apply ba_ | apply bn_ | apply bd_) | exact (Below.refl w.heap.size w)) (below_size (by repeat first | (with_reducible first | exact (Below.refl w.heap.size w) | apply ba_ | apply bn_ | apply bd_) | exact (Below.refl w.heap.size w))) (by simp) ?_; (case hd => rfl); (case hg => rfl); (case hr => first | (go_simp; done) | (go_simp; rfl)); (case hp => exact (Reps.none _ _)); intro v1 w1 ho hb hgr hnw)
          have HOUT := am_ ho
          have HB := am_ hb
          clear ho hb hgr hnw
          refine (spec_l16Good.calls kv _ _ xs _ true _ (by repeat first | exact (Kd.C_below HR0.out HB.out) | with_reducible refine ca_ ?_ _ | with_reducible refine cn_ ?_ _ | with_reducible refine cd_ ?_) HC0.out HV.out).mono ?_
          rintro e w2 ⟨rfl, hb⟩
          replace HOUT := am_ (Kd.R_below (by (with_reducible repeat first | apply ra_ | apply rn_ | apply rd_); exact HOUT.out) hb); replace HB := am_ (below_step (by repeat first | (with_reducible first | exact HB.out | apply ba_ | apply bn_ | apply bd_) | exact HB.out) hb); clear hb
          go_wp2_with fail
          refine (spec_l16Balances.calls kb _ _ bal _ false _ (by repeat first | exact (Kd.C_below HR2.out HB.out) | with_reducible refine ca_ ?_ _ | with_reducible refine cn_ ?_ _ | with_reducible refine cd_ ?_) HC2.out HVB.out).mono ?_
          rintro e w3 ⟨rfl, hb0⟩
          have hb := db_ hb0
          replace HOUT := am_ (Kd.R_below (by (with_reducible repeat first | apply ra_ | apply rn_ | apply rd_); exact HOUT.out) hb); replace HB := am_ (below_step (by repeat first | (with_reducible first | exact HB.out | apply ba_ | apply bn_ | apply bd_) | exact HB.out) hb); clear hb
          clear hb0
          go_wp2
          go_ret2
          exact ⟨_, rfl, (by (with_reducible repeat first | apply ra_ | apply rn_ | apply rd_); exact HOUT.out), (by repeat first | (with_reducible first | exact HB.out | apply ba_ | apply bn_ | apply bd_) | exact HB.out)⟩
      · have cx : decide (10 < xs.length) = true := decide_eq_true (by omega)
        clear hfin ha0 ha2 hgc hgb g hvb hv hr0 hc0 hr2 hc2
        go_enter Try.func34, Try.ntmps34
        go_wp2_with ((with_reducible refine gate_dst (N := 18) rfl ?_); refine Kd.R_lit (Kd.int .i64) w.heap.size 3 (w0 := w) ?hg (N := 18) ?hd (xs := []) (inner := []) (ok := fun _ => True) (okp := fun _ => True) ?hr ?hp (fun _ hk => hk) trivial (by repeat first | (with_reducible first | exact (Below.refl w.heap.size w) | apply ba_ | apply bn_ | apply bd_) | exact (Below.refl w.heap.size w)) (below_size (by repeat first | (with_reducible first | exact (Below.refl w.heap.size w) | apply ba_ | apply bn_ | apply bd_) | exact (Below.refl w.heap.size w))) (by simp) ?_; (case hd => rfl); (case hg => rfl); (case hr => first | (go_simp; done) | (go_simp; rfl)); (case hp => exact (Reps.none _ _)); intro v1 w1 ho hb hgr hnw)
        have HOUT := am_ ho
        have HB := am_ hb
        clear ho hb hgr hnw
        refine (spec_l16Good.calls kv _ _ xs _ true _ (by repeat first | exact (Kd.C_below HR0.out HB.out) | with_reducible refine ca_ ?_ _ | with_reducible refine cn_ ?_ _ | with_reducible refine cd_ ?_) HC0.out HV.out).mono ?_
        rintro e w2 ⟨rfl, hb⟩
        replace HOUT := am_ (Kd.R_below (by (with_reducible repeat first | apply ra_ | apply rn_ | apply rd_); exact HOUT.out) hb); replace HB := am_ (below_step (by repeat first | (with_reducible first | exact HB.out | apply ba_ | apply bn_ | apply bd_) | exact HB.out) hb); clear hb
        go_wp2
        go_ret2
        exact ⟨_, rfl, (by (with_reducible repeat first | apply ra_ | apply rn_ | apply rd_); exact HOUT.out), (by repeat first | (with_reducible first | exact HB.out | apply ba_ | apply bn_ | apply bd_) | exact HB.out)⟩
set_option maxHeartbeats 8000000 in
set_option maxRecDepth 100000 in
theorem togI_c (A0 : Option Addr) (c0 : Nat) (xs : List S54) (p : Int) (A2 : Option Addr) (c2 : Nat) (bal : List Int) (w : World) (hr0 : Kd.C k54 w A0 xs.length xs) (hc0 : xs.length ≤ c0) (ha0 : 0 < xs.length → ∃ b, A0 = some ⟨b, 0, none⟩) (hn : xs.length ≤ 1048576) (hr2 : (Kd.int .i64).C w A2 bal.length bal) (hc2 : bal.length ≤ c2) (ha2 : 0 < bal.length → ∃ b, A2 = some ⟨b, 0, none⟩) (hm : bal.length ≤ 1048576) :
    Calls Try.prog 35 #[.slice A0 xs.length c0, .int .i64 p, .slice A2 bal.length c2] w fun e w' => ∃ v, e = .returned (.tuple #[v, .bool (togA xs p bal).2]) ∧ (Kd.int .i64).R 3 w' w.heap.size (fun _ => True) v (togA xs p bal).1 ∧ Below w.heap.size w w' := by
  obtain ⟨gc, hgc⟩ : ∃ q, q = goodC xs p := ⟨_, rfl⟩
  obtain ⟨gb, hgb⟩ : ∃ q, q = goodB bal p := ⟨_, rfl⟩
  have HR0 := am_ hr0
  have HC0 := am_ hc0
  have HR2 := am_ hr2
  have HC2 := am_ hc2
  have HA2 := am_ ha2
  by_cases g : gc = true ∧ xs.length ≤ 10 ∧ gb = true
  · obtain ⟨rfl, hx10, rfl⟩ := g
    have gg := of_decide_eq_true hgc.symm
    have gg2 := of_decide_eq_true hgb.symm
    obtain ⟨⟨p1, p2⟩, hx20, hok, hsum⟩ := gg
    obtain ⟨m, rfl⟩ := Int.eq_ofNat_of_zero_le (show 0 ≤ p from by omega)
    have hbl : bal.length = m := by have := gg2.1; omega
    have hfin : togA xs m bal = (blF xs.length (bestOf xs bal) 0, true) := by unfold togA; rw [if_pos ⟨hgc.symm, hx10, hgb.symm⟩]
    obtain ⟨bb, rfl⟩ := ha2 (by omega)
    have HBL := am_ hbl
    rw [hfin]
    obtain ⟨N, hN⟩ : ∃ N, N = 2 ^ xs.length := ⟨_, rfl⟩
    have hN1 : 1 ≤ N := by rw [hN]; exact Nat.pow_pos (by decide)
    have hN2 : N ≤ 1024 := by rw [hN]; exact Nat.le_trans (Nat.pow_le_pow_right (by decide) hx10) (by decide)
    obtain ⟨best, hbe⟩ : ∃ b, b = bestOf xs bal := ⟨_, rfl⟩
    have hbN : best < N := by rw [hbe, hN]; exact bestOf_lt xs bal
    rw [← hbe]
    have HF := am_ (show (foldT xs bal N 0 (0, 0)).1 = best from by rw [foldT_zero xs bal N hN1, hbe, hN]; rfl)
    have HN := am_ hN
    have HBN := am_ hbN
    have HOK := am_ hok
    have HSUM := am_ hsum
    have HBD := am_ gg2.2
    have HX20 := am_ hx20
    have m1 : 2 ≤ m := by omega
    have m2 : m ≤ 8 := by omega
    have cx : decide (10 < xs.length) = false := decide_eq_false (by omega)
    have HG := am_ (show (goodC xs m && goodB bal m) = true from by rw [← hgc, ← hgb]; rfl)
    clear hr0 hc0 hr2 hc2 hok hx20 hfin hsum ha0 p1 p2 gg2 ha2 hgc hgb hbl hN hbe hbN
    have hNw : wrap64 (2 ^ xs.length) = (N : Int) := by
      rw [show (2 : Int) ^ xs.length = (N : Int) from by rw [HN.out]; simp]
      exact wrapId (by omega)
    go_enter Try.func35, Try.ntmps35
    go_wp2_with fail
    refine (areBal_c _ _ xs _ _ _ bal _ HR0.out HC0.out HR2.out HA2.out hn hm).mono ?_
    rw [HG.out]
    rintro e w1 ⟨rfl, hb⟩
    have HB := am_ hb
    clear hb
    go_wp2
    rw [hNw]
    clear hNw
    go_loopw [8, 9, 28] (fun v8 v9 v28 wr => ∃ (s1 : Nat) (s2 : Int) (v : Nat), v8 = .int .i64 s1 ∧ v9 = .int .i64 s2 ∧ v28 = .int .i64 v ∧ Aside0 (v ≤ N) ∧ Aside0 ((foldT xs bal (N - v) v (s1, s2)).1 = best) ∧ Aside0 (0 ≤ s2 ∧ s2 ≤ 1000000000) ∧ Aside0 (Below w.heap.size w wr)) (fun _ _ v28 _ => N - (intOf v28).toNat)
    case atStart => exact ⟨0, 0, 0, rfl, rfl, rfl, ⟨Nat.zero_le _⟩, HF, ⟨by decide⟩, HB⟩
    case round =>
      clear HB HF
      obtain ⟨s1, s2, v, rfl, rfl, rfl, HVN, HF, HS, HB⟩ := hrel
      by_cases hvN : v < N
      · have cv : decide (v < N) = true := decide_eq_true hvN
        go_wp2_with fail
        refine (cloneInt_c _ _ bal _ (by repeat first | exact (Kd.C_below HR2.out HB.out) | with_reducible refine ca_ ?_ _ | with_reducible refine cn_ ?_ _ | with_reducible refine cd_ ?_) hm).mono ?_
        rintro e w2 ⟨v11, rfl, ho, hb⟩
        obtain ⟨g, cap, hv11, hg1, hg2, cells, hg3⟩ := Kd.R_form ho (by have := HBL.out; omega)
        rw [HBL.out] at hv11
        subst hv11
        have HO := am_ (Kd.R_lower ho (show w.heap.size ≤ _ from below_size HB.out))
        replace hg1 : w.heap.size ≤ g := Nat.le_trans (below_size HB.out) hg1
        replace HB := am_ (below_step (by repeat first | (with_reducible first | exact HB.out | apply ba_ | apply bn_ | apply bd_) | exact HB.out) hb); clear hb
        clear ho hg2 hg3 cells
        obtain ⟨P, hP⟩ : ∃ P, P = pickF xs v := ⟨_, rfl⟩
        have okP : ∀ a ∈ P, okC m a := fun a ha => HOK.out a (pickF_mem xs v a (by rw [← hP]; exact ha))
        have sumP : sumC P ≤ 1000000000 := by have := pickF_sum xs v HOK.out; have := HSUM.out; rw [hP]; omega
        have sumP0 := (sumC_bd P okP).1
        have HPE := am_ hP
        have HFM := am_ (fit_min (p := P) HBL.out (by omega) (posFold_get P bal 1000000000 okP HBL.out (by decide) (by omega) (fun x hx => by have := HBD.out x hx; omega)).1)
        obtain ⟨T, hT⟩ : ∃ T, T = posFold bal P := ⟨_, rfl⟩
        obtain ⟨sm, hsm⟩ : ∃ q, q = sumC P := ⟨_, rfl⟩
        rw [← hT] at HFM
        have HT0 := am_ (show posFold bal (pickF xs (v / 2 ^ ([] : List S54).length)) = T from by rw [hT, hP]; simp)
        have HS0 := am_ (show 0 + sumC (pickF xs (v / 2 ^ ([] : List S54).length)) = sm from by rw [hsm, hP]; simp)
        have HSMB := am_ (show 0 ≤ sm ∧ sm ≤ 1000000000 from by rw [hsm]; exact ⟨sumP0, sumP⟩)
        have HSME := am_ hsm
        clear hT hsm hP okP sumP sumP0
        go_wp2
        go_loopw [12, 35] (fun v12 v35 wr => ∃ (pre rest : List S54) (b : List Int) (sum : Int), Aside0 (xs = pre ++ rest) ∧ v12 = .int .i64 sum ∧ v35 = .int .i64 pre.length ∧ Aside0 (posFold b (pickF rest (v / 2 ^ pre.length)) = T) ∧ Aside0 (sum + sumC (pickF rest (v / 2 ^ pre.length)) = sm) ∧ Aside0 (0 ≤ sum) ∧ Aside0 (b.length = m) ∧ Aside0 (∀ x ∈ b, -(1000000000 + sum) ≤ x ∧ x ≤ 1000000000 + sum) ∧ Aside0 ((Kd.int .i64).R 3 wr w.heap.size (fun _ => True) (.slice (some ⟨g, 0, none⟩) m cap) b) ∧ Aside0 (Below w.heap.size w wr)) (fun _ v35 _ => xs.length - (intOf v35).toNat)
        case atStart => exact ⟨[], xs, bal, 0, ⟨rfl⟩, rfl, rfl, HT0, HS0, ⟨Int.le_refl 0⟩, HBL, ⟨fun x hx => by have := HBD.out x hx; omega⟩, HO, HB⟩
        case round =>
          clear HO HB HT0 HS0
          obtain ⟨pre, rest, b, sum, HX, rfl, rfl, HT, HSS, HS0, HL, HBB, HO, HB⟩ := hrel
          cases rest with
          | nil =>
            have c : decide (pre.length < xs.length) = false := decide_eq_false (by have := len_nil HX.out; omega)
            have hT := HT.out
            have hS := HSS.out
            rw [pickF, posFold] at hT
            rw [pickF, sumC] at hS
            obtain rfl : sum = sm := by omega
            subst hT
            have hstep : foldT xs bal (N - v) v (s1, s2) = foldT xs bal (N - (v + 1)) (v + 1) (if fitB bal P = true ∧ s2 < sum then (v, sum) else (s1, s2)) := by
              rw [show N - v = (N - (v + 1)) + 1 from by omega, foldT, show stepTg xs bal (s1, s2) v = (if fitB bal P = true ∧ s2 < sum then (v, sum) else (s1, s2)) from by rw [HSME.out, HPE.out]; rfl]
            have hF := HF.out
            rw [hstep] at hF
            have hFM := HFM.out
            obtain ⟨ff, hff⟩ : ∃ q, q = fitB bal P := ⟨_, rfl⟩
            rw [← hff] at hF hFM
            have hSb := HS.out
            have hSMB := HSMB.out
            clear hstep hff hS HT HSS
            by_cases cg : s2 < sum
            · have cgb : decide (s2 < sum) = true := decide_eq_true cg
              obtain ⟨mn, hmn⟩ : ∃ q, q = Lib.minOf b := ⟨_, rfl⟩
              rw [← hmn] at hFM
              have HMN := am_ hmn
              clear hmn
              cases ff with
              | true =>
                rw [if_pos ⟨rfl, cg⟩] at hF
                have HF1 := am_ hF
                clear hF cg
                go_wp2_with (go_at_call 58; refine (min_c g m cap b _ (by repeat first | exact (R_C HO.out) | with_reducible refine ca_ ?_ _ | with_reducible refine cn_ ?_ _ | with_reducible refine cd_ ?_) (by omega)).mono ?_; rw [← HMN.out]; rintro e w3 ⟨rfl, rfl⟩)
                go_roundw
                case rel => exact ⟨v, sum, v + 1, rfl, rfl, by go_num, ⟨hvN⟩, HF1, HSMB, ⟨(by repeat first | (with_reducible first | exact HB.out | apply ba_ | apply bn_ | apply bd_) | exact HB.out)⟩⟩
                case measure => simp [intOf]; omega
              | false =>
                rw [if_neg (by simp)] at hF
                have HF1 := am_ hF
                clear hF cg
                go_wp2_with (go_at_call 58; refine (min_c g m cap b _ (by repeat first | exact (R_C HO.out) | with_reducible refine ca_ ?_ _ | with_reducible refine cn_ ?_ _ | with_reducible refine cd_ ?_) (by omega)).mono ?_; rw [← HMN.out]; rintro e w3 ⟨rfl, rfl⟩)
                go_roundw
                case rel => exact ⟨s1, s2, v + 1, rfl, rfl, by go_num, ⟨hvN⟩, HF1, HS, ⟨(by repeat first | (with_reducible first | exact HB.out | apply ba_ | apply bn_ | apply bd_) | exact HB.out)⟩⟩
                case measure => simp [intOf]; omega
            · have cgb : decide (s2 < sum) = false := decide_eq_false cg
              rw [if_neg (fun q => cg q.2)] at hF
              have HF1 := am_ hF
              clear hF cg hFM
              go_wp2
              go_roundw
              case rel => exact ⟨s1, s2, v + 1, rfl, rfl, by go_num, ⟨hvN⟩, HF1, HS, ⟨(by repeat first | (with_reducible first | exact HB.out | apply ba_ | apply bn_ | apply bd_) | exact HB.out)⟩⟩
              case measure => simp [intOf]; omega
          | cons a t =>
            have hlt := len_cons HX.out
            have hpl : (pre.length : Int) < xs.length := by omega
            have ha := HOK.out a (by rw [HX.out]; simp)
            have HA := am_ ha
            have p0 := ha.1.1
            have q0 : a.f0 < (m : Int) := by have := ha.1.2; omega
            have p1 := ha.2.1.1
            have q1 : a.f1 < (m : Int) := by have := ha.2.1.2; omega
            have a2 := ha.2.2.2
            obtain ⟨ad, e0, hx0, hx1, hx2⟩ := at_T54 HR0.out (pre.length : Int) (by omega) hpl
            rw [rd_T54_at HX.out rfl] at hx0 hx1 hx2
            simp only [Int.toNat_natCast] at hx0 hx1 hx2
            cases e0
            replace hx0 := (HB.out.cell (World.block_lt_of_cell? w _ hx0)).trans hx0
            replace hx1 := (HB.out.cell (World.block_lt_of_cell? w _ hx1)).trans hx1
            replace hx2 := (HB.out.cell (World.block_lt_of_cell? w _ hx2)).trans hx2
            have c : decide (pre.length < xs.length) = true := decide_eq_true (by omega)
            have c' : pre.length < xs.length := by omega
            have HSN := am_ (snoc HX.out)
            have OKT : ∀ x ∈ t, okC m x := fun x hx => HOK.out x (by rw [HX.out]; simp [hx])
            have hq : v / 2 ^ pre.length / 2 = v / 2 ^ (pre.length + 1) := (div_pow_succ v pre.length).symm
            have hT := HT.out
            have hS := HSS.out
            rw [pickF, hq] at hT hS
            have hpn : 0 ≤ sumC (pickF t (v / 2 ^ (pre.length + 1))) := (sumC_bd _ (fun x hx => OKT x (pickF_mem t _ x hx))).1
            have hsmb := HSMB.out
            have hs0 := HS0.out
            clear hlt hq OKT
            go_upto_region 12 with (fail)
            clear hx0 hx1 hx2
            obtain ⟨W1, hW1⟩ : ∃ W1, W1 = wr.alloc (.cells #[.int .i64 a.f0, .int .i64 a.f1, .int .i64 a.f2] 54) := ⟨_, rfl⟩
            have HK := am_ (show W1.heap[wr.heap.size]? = some (.cells #[.int .i64 a.f0, .int .i64 a.f1, .int .i64 a.f2] 54 (0, 0)) from by rw [hW1]; exact blk_new wr _)
            have HO1 := am_ (show (Kd.int .i64).R 3 W1 w.heap.size (fun _ => True) (.slice (some ⟨g, 0, none⟩) m cap) b from by rw [hW1]; exact Kd.R_alloc HO.out _)
            have HB1 := am_ (show Below w.heap.size w W1 from by rw [hW1]; exact below_alloc HB.out _)
            have gB : wr.heap.size ≠ g := Nat.ne_of_gt (R_ownlt HO.out rfl).2
            rw [← hW1]
            clear hW1 HO HB
            generalize wr.heap.size = B at HK gB ⊢
            by_cases hbt : v / 2 ^ pre.length % 2 = 1
            · have hbit := bit_one (v := v) (i := pre.length) (by omega) hbt
              rw [if_pos hbt] at hT hS
              have hS2 : sum + (a.f2 + sumC (pickF t (v / 2 ^ (pre.length + 1)))) = sm := hS
              have hT2 : posFold (posStep b a) (pickF t (v / 2 ^ (pre.length + 1))) = T := hT
              obtain ⟨ps1, ps2, bVA, bVB⟩ := posStep_set HA.out HL.out (1000000000 + sum) (by omega) HBB.out
              have hgb := (posStep_get HA.out HL.out (1000000000 + sum) (by omega) HBB.out).2
              have hsn : 0 ≤ sum + a.f2 := by omega
              have hse : sum + a.f2 + sumC (pickF t (v / 2 ^ (pre.length + 1))) = sm := by omega
              have hsb : 0 ≤ sum ∧ sum ≤ 1000000000 := by omega
              obtain ⟨VA, hVA⟩ : ∃ q, q = rd b a.f0 := ⟨_, rfl⟩
              obtain ⟨VB, hVB⟩ : ∃ q, q = rd b a.f1 := ⟨_, rfl⟩
              rw [← hVA] at ps1 ps2 bVA
              rw [← hVB] at ps1 ps2 bVB
              have HVA := am_ hVA
              have HP1 := am_ ps1
              have HP2 := am_ ps2
              have HT1 := am_ hT2
              have HSS1 := am_ hse
              have HS1 := am_ hsn
              have HBB1 := am_ (show ∀ x ∈ posStep b a, -(1000000000 + (sum + a.f2)) ≤ x ∧ x ≤ 1000000000 + (sum + a.f2) from fun x hx => by have := hgb x hx; omega)
              clear hT hS hS2 hT2 hgb hsn hse hVA hVB ps1 ps2 hpn hsmb hs0 hbt
              go_upto_region 13 with (fail)
              clear hbit
              have hk0 := (blk_cell HK.out 0).trans rfl
              have hk2 := (blk_cell HK.out 2).trans rfl
              have hy := Kd.R_celln 0 HO1.out a.f0 p0 q0
              rw [show rdOf 0 b a.f0 = VA from HVA.out.symm] at hy
              obtain ⟨hy, hf⟩ := hy
              go_region
              clear hk0 hk2 hy hf
              go_upto_region 14 with (fail)
              have HO3 := am_ (Kd.R_drew (Kd.R_putn HO1.out a.f0 (VA - a.f2)))
              have HB3 := am_ (below_drew (below_set (j := a.f0.toNat) (v := .int .i64 (VA - a.f2)) HB1.out hg1))
              have HK3 := am_ (blk_drew (blk_far HK.out (p := ⟨g, a.f0.toNat, none⟩) gB (.int .i64 (VA - a.f2))))
              generalize (W1.setCell ⟨g, a.f0.toNat, none⟩ (.int .i64 (VA - a.f2))).drew = W3 at HO3 HB3 HK3 ⊢
              clear HK HO1 HB1
              have hk1 := (blk_cell HK3.out 1).trans rfl
              have hk2 := (blk_cell HK3.out 2).trans rfl
              have hy := Kd.R_celln 0 HO3.out a.f1 p1 q1
              rw [show rdOf 0 (b.set a.f0.toNat (VA - a.f2)) a.f1 = VB from HP2.out] at hy
              obtain ⟨hy, hf⟩ := hy
              go_region
              clear hk1 hk2 hy hf
              go_upto_region 15 with (fail)
              have HO4 := am_ (Kd.R_drew (Kd.R_putn HO3.out a.f1 (VB + a.f2)))
              have HB4 := am_ (below_drew (below_set (j := a.f1.toNat) (v := .int .i64 (VB + a.f2)) HB3.out hg1))
              have HK4 := am_ (blk_drew (blk_far HK3.out (p := ⟨g, a.f1.toNat, none⟩) gB (.int .i64 (VB + a.f2))))
              generalize (W3.setCell ⟨g, a.f1.toNat, none⟩ (.int .i64 (VB + a.f2))).drew = W4 at HO4 HB4 HK4 ⊢
              clear HK3 HO3 HB3
              rw [← HP1.out] at HO4
              have hk2 := (blk_cell HK4.out 2).trans rfl
              go_wp2
              go_roundw
              case rel => exact ⟨pre ++ [a], t, posStep b a, sum + a.f2, HSN, rfl, by rw [len_snoc], ⟨by rw [List.length_append, List.length_singleton]; exact HT1.out⟩, ⟨by rw [List.length_append, List.length_singleton]; exact HSS1.out⟩, HS1, ⟨by rw [posStep_length]; exact HL.out⟩, HBB1, ⟨(by (with_reducible repeat first | apply ra_ | apply rn_ | apply rd_); exact HO4.out)⟩, ⟨(by repeat first | (with_reducible first | exact HB4.out | apply ba_ | apply bn_ | apply bd_) | exact HB4.out)⟩⟩
              case measure => simp [intOf]; omega
            · have hbit := bit_zero (v := v) (i := pre.length) (by omega) hbt
              rw [if_neg hbt, List.nil_append] at hT hS
              have HT1 := am_ hT
              have HSS1 := am_ hS
              clear hT hS hbt hpn hsmb hs0
              go_wp2
              go_roundw
              case rel => exact ⟨pre ++ [a], t, b, sum, HSN, rfl, by rw [len_snoc], ⟨by rw [List.length_append, List.length_singleton]; exact HT1.out⟩, ⟨by rw [List.length_append, List.length_singleton]; exact HSS1.out⟩, HS0, HL, HBB, ⟨(by (with_reducible repeat first | apply ra_ | apply rn_ | apply rd_); exact HO1.out)⟩, ⟨(by repeat first | (with_reducible first | exact HB1.out | apply ba_ | apply bn_ | apply bd_) | exact HB1.out)⟩⟩
              case measure => simp [intOf]; omega
      · obtain rfl : N = v := by have := HVN.out; omega
        have cv : decide (N < N) = false := decide_eq_false (by omega)
        have hF := HF.out
        rw [Nat.sub_self] at hF
        obtain rfl : s1 = best := hF
        clear HF HVN
        have hb62 := HBN.out
        rw [HN.out] at hb62
        have HB62 := am_ hb62
        clear hb62
        go_wp2_with fail
        refine (bitsOf_c s1 xs.length _ HB62.out HX20.out).mono ?_
        rintro e w2 ⟨vr, rfl, ho, hb⟩
        have HO := am_ (Kd.R_lower ho (show w.heap.size ≤ _ from below_size HB.out))
        replace HB := am_ (below_step (by repeat first | (with_reducible first | exact HB.out | apply ba_ | apply bn_ | apply bd_) | exact HB.out) hb); clear hb
        go_wp2
        go_ret2
        exact ⟨_, rfl, (by (with_reducible repeat first | apply ra_ | apply rn_ | apply rd_); exact HO.out), (by repeat first | (with_reducible first | exact HB.out | apply ba_ | apply bn_ | apply bd_) | exact HB.out)⟩
  · have hfin : togA xs p bal = ([], false) := by unfold togA; rw [if_neg (by rw [← hgc, ← hgb]; exact g)]
    rw [hfin]
    obtain ⟨gg, hgg⟩ : ∃ q, q = (goodC xs p && goodB bal p) := ⟨_, rfl⟩
    have HG := am_ hgg
    have hcase : gg = false ∨ ¬ xs.length ≤ 10 := by
      rw [hgg, ← hgc, ← hgb]
      cases gc <;> cases gb <;> simp_all
    clear hfin ha0 ha2 hgc hgb g hr0 hc0 hr2 hc2 hgg
    rcases hcase with rfl | hx
    · go_enter Try.func35, Try.ntmps35
      go_wp2_with fail
      refine (areBal_c _ _ xs _ _ _ bal _ HR0.out HC0.out HR2.out HA2.out hn hm).mono ?_
      rw [← HG.out]
      rintro e w1 ⟨rfl, hb⟩
      have HB := am_ hb
      clear hb
      go_wp2
      go_ret2
      exact ⟨_, rfl, Kd.R_nil _ _ _ _ _, (by repeat first | (with_reducible first | exact HB.out | apply ba_ | apply bn_ | apply bd_) | exact HB.out)⟩
    · have cx : decide (10 < xs.length) = true := decide_eq_true (by omega)
      cases gg with
      | false =>
        go_enter Try.func35, Try.ntmps35
        go_wp2_with fail
        refine (areBal_c _ _ xs _ _ _ bal _ HR0.out HC0.out HR2.out HA2.out hn hm).mono ?_
        rw [← HG.out]
        rintro e w1 ⟨rfl, hb⟩
        have HB := am_ hb
        clear hb
        go_wp2
        go_ret2
        exact ⟨_, rfl, Kd.R_nil _ _ _ _ _, (by repeat first | (with_reducible first | exact HB.out | apply ba_ | apply bn_ | apply bd_) | exact HB.out)⟩
      | true =>
        go_enter Try.func35, Try.ntmps35
        go_wp2_with fail
        refine (areBal_c _ _ xs _ _ _ bal _ HR0.out HC0.out HR2.out HA2.out hn hm).mono ?_
        rw [← HG.out]
        rintro e w1 ⟨rfl, hb⟩
        have HB := am_ hb
        clear hb
        go_wp2
        go_ret2
        exact ⟨_, rfl, Kd.R_nil _ _ _ _ _, (by repeat first | (with_reducible first | exact HB.out | apply ba_ | apply bn_ | apply bd_) | exact HB.out)⟩
end Go.Proofs.Ytaobdjdmmhglaaa.O
