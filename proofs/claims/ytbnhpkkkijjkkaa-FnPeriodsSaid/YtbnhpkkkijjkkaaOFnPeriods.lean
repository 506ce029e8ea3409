/- The law FnPeriods walked: draws, both programs' runs of payments, and what holds of them. No other condition. -/
import Derived.Test.YtbnhpkkkijjkkaaPureFnPeriods
import Derived.Shelf.SlicesE.IndexFunc
import Derived.Shelf.Slices.Clone
import Derived.Shelf.Slices.Turned
import Derived.Sort.LotA
import Derived.Shelf.SlSortCmp.Insertion1
import Derived.Shelf.SlLaysH
import Derived.Shelf.Lays2
import Derived.Shelf.Lays
import Derived.Shelf.SlLaysF
import Derived.Test.YtbnhpkkkijjkkaaOFnPeriodsa
import Derived.Test.YtbnhpkkkijjkkaaOFnPeriodsb
import Derived.Test.YtbnhpkkkijjkkaaOFnPeriodsc
import Derived.Test.YtbnhpkkkijjkkaaOFnPeriodsd
import Derived.Test.YtbnhpkkkijjkkaaOFnPeriodse
import Derived.Test.YtbnhpkkkijjkkaaOFnPeriodsf
import Derived.Test.YtbnhpkkkijjkkaaOFnPeriodsg
import Derived.Test.YtbnhpkkkijjkkaaOFnPeriodsh
namespace Go.Proofs.Ytbnhpkkkijjkkaa.O
open Go.RowKit Go.Proofs.YtbnhpkkkijjkkaaW.PrintWords Go.Proofs.YtbnhpkkkijjkkaaW.PrintLast Go.Proofs.YtbnhpkkkijjkkaaW.PrintMore Go.Proofs.Ytbnhpkkkijjkkaa.PL18D Go.Proofs.Ytbnhpkkkijjkkaa.EvKit Go.Proofs.Ytbnhpkkkijjkkaa.Pure
set_option linter.unusedVariables false
set_option linter.unusedSimpArgs false
attribute [local go_sem] max2_int min2_int max_two min_two max_three min_three max_four min_four
theorem rowAt {w : World} {base : Nat} {A : Option Addr} {n c : Nat} {PS : List (List Int)} (h : Kd.R (Kd.slice 3 (Kd.int .i64)) 51 w base (fun _ => True) (.slice A n c) PS) {i : Nat} (hi : i < PS.length) :
    ∃ b Ap cp, A = some ⟨b, 0, none⟩ ∧ w.cell? ⟨b, i, none⟩ = some (.slice Ap (PS[i]).length cp) ∧ (Kd.int .i64).R 3 w base (fun _ => True) (.slice Ap (PS[i]).length cp) PS[i] := by
  obtain ⟨b, rfl⟩ := R_head h (by omega)
  have hn : n = PS.length := (Kd.R_reads' h).1
  obtain ⟨cc, hcl, hM, hcc, _⟩ := Kd.R_elem h [] (i : Int) (by omega) (by omega)
  rw [show PS.getD (i : Int).toNat [] = PS[i] from by rw [Int.toNat_natCast, List.getD_eq_getElem?_getD, List.getElem?_eq_getElem hi]; rfl] at hM
  obtain ⟨v, rfl, hR⟩ := hM
  obtain ⟨Ap, cp, hv⟩ := Kd.R_slice hR
  subst hv
  have h0 := hcc 0 _ rfl
  exact ⟨b, Ap, cp, rfl, by rw [show (i : Int).toNat * (Kd.slice 3 (Kd.int .i64)).sz + 0 = i from Nat.mul_one i] at h0; exact h0, Kd.R_mono hR (fun _ _ => trivial)⟩
theorem colS_nn {PS : List (List Int)} (h : ∀ p ∈ PS, ∀ x ∈ p, 0 ≤ x ∧ x ≤ 1000000000) (hl : PS.length ≤ 20) (k : Nat) : 0 ≤ colS PS k ∧ colS PS k ≤ 20000000000 := by
  have hm : ∀ c ∈ PS.map (fun p => rdN p k), 0 ≤ c ∧ c ≤ 1000000000 := fun c hc => by
    obtain ⟨p, hp, rfl⟩ := List.mem_map.mp hc
    by_cases hk : k < p.length
    · exact h p hp _ (rdN_mem hk)
    · rw [rdN, List.getD_eq_getElem?_getD, List.getElem?_eq_none (by omega)]; exact ⟨Int.le_refl _, by decide⟩
  have h1 := sumI_nonneg _ (fun c hc => (hm c hc).1)
  have h2 := sumI_le _ 1000000000 (fun c hc => (hm c hc).2)
  rw [List.length_map] at h2
  exact ⟨h1, by unfold colS; omega⟩
theorem allS_nn {PS : List (List Int)} (h : ∀ p ∈ PS, p.length ≤ 20 ∧ ∀ x ∈ p, 0 ≤ x ∧ x ≤ 1000000000) (hl : PS.length ≤ 20) : 0 ≤ allS PS ∧ allS PS ≤ 400000000000 := by
  have hm : ∀ c ∈ PS.map sumI, 0 ≤ c ∧ c ≤ 20000000000 := fun c hc => by
    obtain ⟨p, hp, rfl⟩ := List.mem_map.mp hc
    have h3 := h p hp
    have h1 := sumI_nonneg _ (fun c hc => (h3.2 c hc).1)
    have h2 := sumI_le _ 1000000000 (fun c hc => (h3.2 c hc).2)
    have := h3.1
    exact ⟨h1, by omega⟩
  have h1 := sumI_nonneg _ (fun c hc => (hm c hc).1)
  have h2 := sumI_le _ 20000000000 (fun c hc => (hm c hc).2)
  rw [List.length_map] at h2
  exact ⟨h1, by unfold allS; omega⟩
theorem sumI_append (a b : List Int) : sumI (a ++ b) = sumI a + sumI b := by
  induction a with
  | nil => simp [sumI]
  | cons x t ih => rw [List.cons_append]; simp only [sumI, ih]; omega
theorem colS_step {PS : List (List Int)} {i : Nat} (hi : i < PS.length) (k : Nat) : colS (PS.take (i + 1)) k = colS (PS.take i) k + rdN PS[i] k := by
  rw [List.take_succ_eq_append_getElem hi, colS, List.map_append, sumI_append]
  simp [colS, sumI]
theorem allS_step {PS : List (List Int)} {i : Nat} (hi : i < PS.length) : allS (PS.take (i + 1)) = allS (PS.take i) + sumI PS[i] := by
  rw [List.take_succ_eq_append_getElem hi, allS, List.map_append, sumI_append]
  simp [allS, sumI]
theorem sumI_take {p : List Int} {k : Nat} (hk : k < p.length) : sumI (p.take (k + 1)) = sumI (p.take k) + rdN p k := by
  rw [List.take_succ_eq_append_getElem hk, sumI_append, rdN, List.getD_eq_getElem?_getD, List.getElem?_eq_getElem hk]
  simp [sumI]
theorem rdN_set {G : List Int} {j : Nat} (hj : j < G.length) (x : Int) (k : Nat) : rdN (G.set j x) k = if k = j then x else rdN G k := by
  rw [rdN, rdN, List.getD_eq_getElem?_getD, List.getD_eq_getElem?_getD, List.getElem?_set]
  by_cases e : j = k
  · subst e; simp [hj]
  · rw [if_neg e, if_neg (fun h => e h.symm)]
set_option maxHeartbeats 16000000 in
set_option maxRecDepth 100000 in
theorem law_c (A0 : Option Addr) (c0 : Nat) (l0 : List Int) (w : World) (hr0 : Kd.C (Kd.int .u8) w A0 l0.length l0) (hc0 : l0.length ≤ c0) (he0 : ∀ y ∈ l0, (0 ≤ y ∧ y ≤ 255)) :
    Calls Try.prog 13 #[.slice A0 l0.length c0] w fun e w' => e = .returned (.bool true) ∧ Below w.heap.size w w' := by
  have HR0 := am_ hr0
  have HC0 := am_ hc0
  have HE0 := am_ he0
  have HB := am_ (Below.refl w.heap.size w)
  clear hr0 hc0 he0
  by_cases hbig : (l0.length : Int) > 65536
  · have HV := am_ (show laws_vBig.f l0 = some true from congrArg some (decide_eq_true hbig))
    clear hbig
    go_enter Try.func13, Try.ntmps13
    go_wp2_with fail
    refine (laws_vBig.calls A0 c0 l0 true _ (by repeat first | exact (Kd.C_below HR0.out HB.out) | with_reducible refine ca_ ?_ _ | with_reducible refine cn_ ?_ _ | with_reducible refine cd_ ?_) HC0.out HV.out).mono ?_
    rintro e w1 ⟨rfl, hb0⟩
    have hb := db_ hb0
    clear hb0
    replace HB := am_ (below_step (by repeat first | (with_reducible first | exact HB.out | apply ba_ | apply bn_ | apply bd_) | exact HB.out) hb); clear hb
    go_wp2
    go_ret
    exact ⟨rfl, (by repeat first | (with_reducible first | exact HB.out | apply ba_ | apply bn_ | apply bd_) | exact HB.out)⟩
  have HV := am_ (show laws_vBig.f l0 = some false from congrArg some (decide_eq_false hbig))
  clear hbig
  go_enter Try.func13, Try.ntmps13
  go_wp2_with fail
  refine (laws_vBig.calls A0 c0 l0 false _ (by repeat first | exact (Kd.C_below HR0.out HB.out) | with_reducible refine ca_ ?_ _ | with_reducible refine cn_ ?_ _ | with_reducible refine cd_ ?_) HC0.out HV.out).mono ?_
  rintro e w1 ⟨rfl, hb0⟩
  have hb := db_ hb0
  clear hb0
  replace HB := am_ (below_step (by repeat first | (with_reducible first | exact HB.out | apply ba_ | apply bn_ | apply bd_) | exact HB.out) hb); clear hb
  go_wp2_with fail
  refine (drawRun_c A0 c0 l0 _ (by repeat first | exact (Kd.C_below HR0.out HB.out) | with_reducible refine ca_ ?_ _ | with_reducible refine cn_ ?_ _ | with_reducible refine cd_ ?_) HE0.out).mono ?_
  rintro e w2 ⟨v3, v4, xs, cs, rfl, ho, hl, hp, hl2, hb⟩
  have HO3 := am_ (Kd.R_lower ho (show w.heap.size ≤ _ from below_size (by repeat first | (with_reducible first | exact HB.out | apply ba_ | apply bn_ | apply bd_) | exact HB.out)))
  have HO4 := am_ (Kd.R_lower hp (show w.heap.size ≤ _ from below_size (by repeat first | (with_reducible first | exact HB.out | apply ba_ | apply bn_ | apply bd_) | exact HB.out)))
  replace HB := am_ (below_step (by repeat first | (with_reducible first | exact HB.out | apply ba_ | apply bn_ | apply bd_) | exact HB.out) hb); clear hb
  clear ho hp
  obtain ⟨A3, c3, e3⟩ := Kd.R_slice HO3.out
  subst e3
  obtain ⟨A4, c4, e4⟩ := Kd.R_slice HO4.out
  subst e4
  have HI := am_ (fun W h0 h1 => runI_c A3 c3 xs A4 c4 cs W h0 (R_cap HO3.out) (by omega) h1 (R_cap HO4.out) (fun hp => R_head HO4.out hp) (by omega))
  have HS := am_ (fun W h0 h1 => runS_c A3 c3 xs A4 c4 cs W h0 (R_cap HO3.out) (by omega) h1 (R_cap HO4.out) (by omega))
  have hfa := fun (g : goodT xs = true) (h : okCash cs) => runW_facts cs xs 0 g (Int.le_refl 0) (fun c hc => (h.1 c hc).1) (by have := h.2.2; omega)
  have hrl : (runA xs cs).2.1.length ≤ 1048576 := by
    by_cases q : goodT xs = true ∧ okCash cs
    · rw [runA_yes q.1 q.2]
      have := (hfa q.1 q.2).2.2.1
      simp only [List.length_map]
      omega
    · rw [runA_no q]; exact Nat.zero_le _
  obtain ⟨RA, hRA⟩ : ∃ R, R = runA xs cs := ⟨_, rfl⟩
  have HRA := am_ hRA
  rw [← hRA] at HI HS hrl
  clear hRA
  obtain ⟨PS, DS, so⟩ := RA
  simp only at HI HS hrl
  obtain ⟨kE, hE⟩ := roundsOf (vInts_ev DS (by omega))
  have HE := am_ hE
  clear hE hrl
  go_wp2_with fail
  refine (HI.out _ (by repeat first | exact (R_C HO3.out) | with_reducible refine ca_ ?_ _ | with_reducible refine cn_ ?_ _ | with_reducible refine cd_ ?_) (by repeat first | exact (R_C HO4.out) | with_reducible refine ca_ ?_ _ | with_reducible refine cn_ ?_ _ | with_reducible refine cd_ ?_)).mono ?_
  rintro e w3 ⟨v5, v6, rfl, ho, hp, hb⟩
  have HP5 := am_ (Kd.R_lower ho (show w.heap.size ≤ _ from below_size (by repeat first | (with_reducible first | exact HB.out | apply ba_ | apply bn_ | apply bd_) | exact HB.out)))
  have HD6 := am_ (Kd.R_lower hp (show w.heap.size ≤ _ from below_size (by repeat first | (with_reducible first | exact HB.out | apply ba_ | apply bn_ | apply bd_) | exact HB.out)))
  replace HO3 := am_ (Kd.R_below (by (with_reducible repeat first | apply ra_ | apply rn_ | apply rd_); exact HO3.out) hb); replace HO4 := am_ (Kd.R_below (by (with_reducible repeat first | apply ra_ | apply rn_ | apply rd_); exact HO4.out) hb); replace HB := am_ (below_step (by repeat first | (with_reducible first | exact HB.out | apply ba_ | apply bn_ | apply bd_) | exact HB.out) hb); clear hb
  clear ho hp
  go_wp2_with fail
  refine (HS.out _ (by repeat first | exact (R_C HO3.out) | with_reducible refine ca_ ?_ _ | with_reducible refine cn_ ?_ _ | with_reducible refine cd_ ?_) (by repeat first | exact (R_C HO4.out) | with_reducible refine ca_ ?_ _ | with_reducible refine cn_ ?_ _ | with_reducible refine cd_ ?_)).mono ?_
  rintro e w4 ⟨v8, v9, rfl, ho, hp, hb⟩
  have HW9 := am_ (Kd.R_lower hp (show w.heap.size ≤ _ from below_size (by repeat first | (with_reducible first | exact HB.out | apply ba_ | apply bn_ | apply bd_) | exact HB.out)))
  replace HO3 := am_ (Kd.R_below (by (with_reducible repeat first | apply ra_ | apply rn_ | apply rd_); exact HO3.out) hb); replace HO4 := am_ (Kd.R_below (by (with_reducible repeat first | apply ra_ | apply rn_ | apply rd_); exact HO4.out) hb); replace HP5 := am_ (Kd.R_below (by (with_reducible repeat first | apply ra_ | apply rn_ | apply rd_); exact HP5.out) hb); replace HD6 := am_ (Kd.R_below (by (with_reducible repeat first | apply ra_ | apply rn_ | apply rd_); exact HD6.out) hb); replace HB := am_ (below_step (by repeat first | (with_reducible first | exact HB.out | apply ba_ | apply bn_ | apply bd_) | exact HB.out) hb); clear hb
  clear ho hp HI HS
  obtain ⟨A6, c6, e6⟩ := Kd.R_slice HD6.out
  subst e6
  obtain ⟨A9, c9, e9⟩ := Kd.R_slice HW9.out
  subst e9
  cases so with
  | false =>
    clear hfa
    go_wp2_with fail
    refine (laws_vInts.calls kE A6 c6 DS A9 c9 DS true _ (by repeat first | exact (R_C HD6.out) | with_reducible refine ca_ ?_ _ | with_reducible refine cn_ ?_ _ | with_reducible refine cd_ ?_) (R_cap HD6.out) (by repeat first | exact (R_C HW9.out) | with_reducible refine ca_ ?_ _ | with_reducible refine cn_ ?_ _ | with_reducible refine cd_ ?_) (R_cap HW9.out) HE.out).mono ?_
    rintro e w5 ⟨rfl, hb0⟩
    have hb := db_ hb0
    clear hb0
    replace HO3 := am_ (Kd.R_below (by (with_reducible repeat first | apply ra_ | apply rn_ | apply rd_); exact HO3.out) hb); replace HD6 := am_ (Kd.R_below (by (with_reducible repeat first | apply ra_ | apply rn_ | apply rd_); exact HD6.out) hb); replace HW9 := am_ (Kd.R_below (by (with_reducible repeat first | apply ra_ | apply rn_ | apply rd_); exact HW9.out) hb); replace HB := am_ (below_step (by repeat first | (with_reducible first | exact HB.out | apply ba_ | apply bn_ | apply bd_) | exact HB.out) hb); clear hb
    go_wp2_with fail
    refine (laws_vInts.calls kE A6 c6 DS A9 c9 DS true _ (by repeat first | exact (R_C HD6.out) | with_reducible refine ca_ ?_ _ | with_reducible refine cn_ ?_ _ | with_reducible refine cd_ ?_) (R_cap HD6.out) (by repeat first | exact (R_C HW9.out) | with_reducible refine ca_ ?_ _ | with_reducible refine cn_ ?_ _ | with_reducible refine cd_ ?_) (R_cap HW9.out) HE.out).mono ?_
    rintro e w6 ⟨rfl, hb0⟩
    have hb := db_ hb0
    clear hb0
    replace HO3 := am_ (Kd.R_below (by (with_reducible repeat first | apply ra_ | apply rn_ | apply rd_); exact HO3.out) hb); replace HD6 := am_ (Kd.R_below (by (with_reducible repeat first | apply ra_ | apply rn_ | apply rd_); exact HD6.out) hb); replace HW9 := am_ (Kd.R_below (by (with_reducible repeat first | apply ra_ | apply rn_ | apply rd_); exact HW9.out) hb); replace HB := am_ (below_step (by repeat first | (with_reducible first | exact HB.out | apply ba_ | apply bn_ | apply bd_) | exact HB.out) hb); clear hb
    go_wp2
    go_ret
    exact ⟨rfl, (by repeat first | (with_reducible first | exact HB.out | apply ba_ | apply bn_ | apply bd_) | exact HB.out)⟩
  | true =>
    have hgo : goodT xs = true ∧ okCash cs := by
      by_cases q : goodT xs = true ∧ okCash cs
      · exact q
      · have h := HRA.out; rw [runA_no q] at h; cases h
    obtain ⟨f1, f2, f3, f4, f5, f6, f7⟩ := hfa hgo.1 hgo.2
    have hra := HRA.out
    rw [runA_yes hgo.1 hgo.2] at hra
    injection hra with e1 e2
    injection e2 with e2 e3
    rw [← e1] at f1 f2 f6 f7
    have hn20 := (good_parts hgo.1).2
    have hc20 : cs.length ≤ 20 := hgo.2.2.1
    have hdl : DS.length = xs.length := by rw [e2, List.length_map]; exact f3
    have HPL := am_ f1
    have HPP := am_ f2
    have hF : ∀ (k : Nat) (a : S49), xs[k]? = some a → (0 ≤ a.f1 ∧ a.f1 ≤ 1000000000) ∧ 0 ≤ rdN DS k ∧ rdN DS k ≤ 1000000000 ∧ colS PS k + rdN DS k = a.f1 := fun k a ha => by
      obtain ⟨b, hb1, hb2⟩ := f7 k a ha
      have hbm := (good_parts f4).1 b (List.mem_of_getElem? hb1)
      have ham := (good_parts hgo.1).1 a (List.mem_of_getElem? ha)
      have hd : rdN DS k = b.f1 := by rw [e2, rdN, List.getD_eq_getElem?_getD, List.getElem?_map, hb1]; rfl
      rw [hd]
      exact ⟨ham.2, hbm.2.1, hbm.2.2, hb2⟩
    have HF := am_ hF
    have HALL := am_ (show allS PS ≤ sumI cs from by omega)
    obtain ⟨kS, hS⟩ := roundsOf (rSum_ev cs (by omega) (fun c hc => (hgo.2.1 c hc).1) (by have := hgo.2.2.2; omega))
    have HS := am_ hS
    have hps : PS.length ≤ 20 := by omega
    have HDL := am_ hdl
    clear hfa hgo f1 f2 f3 f4 f5 f6 f7 e1 e2 e3 hF hS hdl
    go_wp2_with fail
    refine (laws_vInts.calls kE A6 c6 DS A9 c9 DS true _ (by repeat first | exact (R_C HD6.out) | with_reducible refine ca_ ?_ _ | with_reducible refine cn_ ?_ _ | with_reducible refine cd_ ?_) (R_cap HD6.out) (by repeat first | exact (R_C HW9.out) | with_reducible refine ca_ ?_ _ | with_reducible refine cn_ ?_ _ | with_reducible refine cd_ ?_) (R_cap HW9.out) HE.out).mono ?_
    rintro e w5 ⟨rfl, hb0⟩
    have hb := db_ hb0
    clear hb0
    replace HO3 := am_ (Kd.R_below (by (with_reducible repeat first | apply ra_ | apply rn_ | apply rd_); exact HO3.out) hb); replace HO4 := am_ (Kd.R_below (by (with_reducible repeat first | apply ra_ | apply rn_ | apply rd_); exact HO4.out) hb); replace HP5 := am_ (Kd.R_below (by (with_reducible repeat first | apply ra_ | apply rn_ | apply rd_); exact HP5.out) hb); replace HD6 := am_ (Kd.R_below (by (with_reducible repeat first | apply ra_ | apply rn_ | apply rd_); exact HD6.out) hb); replace HB := am_ (below_step (by repeat first | (with_reducible first | exact HB.out | apply ba_ | apply bn_ | apply bd_) | exact HB.out) hb); clear hb
    clear HW9
    obtain ⟨A5, c5, e5⟩ := Kd.R_slice HP5.out
    subst e5
    go_wp2_with ((with_reducible refine gate_dst (N := 60) rfl ?_); refine Kd.R_make (Kd.int .i64) w5.heap.size 3 (w0 := w5) rfl (N := 60) rfl 51 _ _ rfl (xs.length : Int) rfl rfl Try.underlying51 (.int .i64 0) 8 infoI rfl (by decide) (by omega) 0 (ok := fun _ => True) (okp := fun _ => True) rfl (fun _ hk => hk) trivial (by omega) (by omega) (Below.refl _ _) (Nat.le_refl _) ?_; intro v1 w1 ho hb _ _)
    rw [Int.toNat_natCast] at ho
    have hvn : v1.ownBlock = v1.ownBlock := rfl
    obtain ⟨A12, c12, e12⟩ := Kd.R_slice ho
    rw [List.length_replicate] at e12
    subst e12
    have HG := am_ ho
    have HL := am_ hb
    clear ho hb hvn
    go_loopw [11, 13] (fun v11 v13 wr => ∃ (i : Nat) (PD : Int) (G : List Int), v11 = .int .i64 PD ∧ v13 = .int .i64 i ∧ Aside0 (i ≤ PS.length) ∧ Aside0 (PD = allS (PS.take i)) ∧ Aside0 (G.length = xs.length ∧ ∀ k, k < xs.length → rdN G k = colS (PS.take i) k) ∧ Aside0 ((Kd.int .i64).R 3 wr w5.heap.size (fun _ => True) (.slice A12 xs.length c12) G) ∧ Aside0 (Below w5.heap.size w5 wr)) (fun _ v13 _ => PS.length - (intOf v13).toNat)
    case atStart => exact ⟨0, 0, List.replicate xs.length 0, rfl, rfl, ⟨Nat.zero_le _⟩, ⟨rfl⟩, ⟨List.length_replicate, fun k hk => by rw [rdN, List.getD_eq_getElem?_getD, List.getElem?_replicate, if_pos hk]; rfl⟩, ⟨(by (with_reducible repeat first | apply ra_ | apply rn_ | apply rd_); exact HG.out)⟩, ⟨(by repeat first | (with_reducible first | exact HL.out | apply ba_ | apply bn_ | apply bd_) | exact HL.out)⟩⟩
    case round =>
      clear HG HL
      obtain ⟨i, PD, G, rfl, rfl, HI, HPD, HGF, HG, HL⟩ := hrel
      by_cases hi : i < PS.length
      · have c1 : decide (i < PS.length) = true := decide_eq_true hi
        obtain ⟨b5, Ap, cp, e5, hx0, hxR⟩ := rowAt HP5.out hi
        subst e5
        have hpp := HPP.out PS[i] (List.getElem_mem hi)
        obtain ⟨p, hp⟩ : ∃ p, p = PS[i] := ⟨_, rfl⟩
        have HPI := am_ (show ∀ k, colS (PS.take (i + 1)) k = colS (PS.take i) k + rdN p k from fun k => by rw [hp]; exact colS_step hi k)
        have HAI := am_ (show allS (PS.take (i + 1)) = allS (PS.take i) + sumI p from by rw [hp]; exact allS_step hi)
        rw [← hp] at hx0 hxR hpp
        have hpl := hpp.1
        rw [hpl] at hx0 hxR
        have CX0 := am_ hx0
        have HXR := am_ hxR
        have HPB := am_ hpp.2
        have hX0 := (HL.out.cell (World.block_lt_of_cell? w5 _ hx0)).trans hx0
        have hii : (0 : Int) ≤ (i : Int) := by omega
        have hij : (i : Int) < (PS.length : Int) := by omega
        have ti : (i : Int).toNat = i := Int.toNat_natCast i
        clear hx0 hxR hpp hp
        go_wp2_with fail
        clear hX0
        go_loopw [11, 14] (fun v11 v14 wr => ∃ (k : Nat) (PE : Int) (G : List Int), v11 = .int .i64 PE ∧ v14 = .int .i64 k ∧ Aside0 (k ≤ xs.length) ∧ Aside0 (PE = allS (PS.take i) + sumI (p.take k)) ∧ Aside0 (G.length = xs.length ∧ ∀ q, q < xs.length → rdN G q = colS (PS.take i) q + (if q < k then rdN p q else 0)) ∧ Aside0 ((Kd.int .i64).R 3 wr w5.heap.size (fun _ => True) (.slice A12 xs.length c12) G) ∧ Aside0 (Below w5.heap.size w5 wr)) (fun _ v14 _ => xs.length - (intOf v14).toNat)
        case atStart => exact ⟨0, PD, G, rfl, rfl, ⟨Nat.zero_le _⟩, ⟨by rw [HPD.out, List.take_zero]; simp [sumI]⟩, ⟨HGF.out.1, fun q hq => by rw [HGF.out.2 q hq, if_neg (Nat.not_lt_zero q), Int.add_zero]⟩, ⟨(by (with_reducible repeat first | apply ra_ | apply rn_ | apply rd_); exact HG.out)⟩, ⟨(by repeat first | (with_reducible first | exact HL.out | apply ba_ | apply bn_ | apply bd_) | exact HL.out)⟩⟩
        case round =>
          clear HG HL HPD HGF
          obtain ⟨k, PE, G, rfl, rfl, HK, HPE, HGF, HG, HL⟩ := hrel
          by_cases hk : k < xs.length
          · have c2 : decide (k < xs.length) = true := decide_eq_true hk
            obtain ⟨bp, ep⟩ := R_head HXR.out (by omega)
            subst ep
            obtain ⟨b12, e12⟩ := R_head HG.out (by have := HGF.out.1; omega)
            subst e12
            have q0 : (0 : Int) ≤ (k : Int) := by omega
            have q1 : (k : Int) < (xs.length : Int) := by omega
            have tn : (k : Int).toNat = k := Int.toNat_natCast k
            obtain ⟨x, hx⟩ : ∃ x, x = rdN p k := ⟨_, rfl⟩
            obtain ⟨gk, hgk⟩ : ∃ x, x = rdN G k := ⟨_, rfl⟩
            have hx1 : w5.cell? ⟨bp, k, none⟩ = some (.int .i64 x) := by
              have h := (Kd.R_celln 0 HXR.out (k : Int) q0 q1).1
              rw [tn] at h
              rw [hx]; exact h
            have hg1 := Kd.R_celln 0 HG.out (k : Int) q0 q1
            rw [tn, show rdOf 0 G (k : Int) = gk from hgk.symm] at hg1
            obtain ⟨yg, fg⟩ := hg1
            have hx0 := CX0.out
            have hX0 := (HL.out.cell (World.block_lt_of_cell? w5 _ hx0)).trans hx0
            have hX1 := (HL.out.cell (World.block_lt_of_cell? w5 _ hx1)).trans hx1
            have hxm : x ∈ p := by rw [hx]; exact rdN_mem (by omega)
            have hxb := HPB.out x hxm
            have xb0 := hxb.1
            have xb1 := hxb.2
            have hcs := colS_nn (PS := PS.take i) (fun r hr => (HPP.out r (List.mem_of_mem_take hr)).2) (by rw [List.length_take]; omega) k
            have hgv : gk = colS (PS.take i) k := by rw [hgk, HGF.out.2 k hk, if_neg (Nat.lt_irrefl k), Int.add_zero]
            have gb0 : 0 ≤ gk := by rw [hgv]; exact hcs.1
            have gb1 : gk ≤ 20000000000 := by rw [hgv]; exact hcs.2
            have has := allS_nn (PS := PS.take i) (fun r hr => ⟨by have := (HPP.out r (List.mem_of_mem_take hr)).1; omega, (HPP.out r (List.mem_of_mem_take hr)).2⟩) (by rw [List.length_take]; omega)
            have hpt0 := sumI_nonneg (p.take k) (fun c hc => (HPB.out c (List.mem_of_mem_take hc)).1)
            have hpt1 := sumI_le (p.take k) 1000000000 (fun c hc => (HPB.out c (List.mem_of_mem_take hc)).2)
            rw [List.length_take] at hpt1
            have hpe := HPE.out
            have pe0 : 0 ≤ PE := by omega
            have pe1 : PE ≤ 500000000000 := by omega
            have HX1 := am_ hx1
            have HXE := am_ hx
            have HGV := am_ hgv
            have hge := Kd.R_base HG.out b12 rfl
            have HGE := am_ hge
            clear hx hx0 hx1 hgk hxm hxb hcs hgv has hpt0 hpt1 hpe hge
            go_upto_region 18 with (fail)
            go_region
            clear hX0 hX1 yg fg
            have HG2 := am_ (Kd.R_drew (Kd.R_putn HG.out (k : Int) (gk + x)))
            have HL2 := am_ (below_drew (below_set (j := k) (v := .int .i64 (gk + x)) HL.out HGE.out))
            rw [tn] at HG2
            clear HG HL
            generalize (wr.setCell ⟨b12, k, none⟩ (.int .i64 (gk + x))).drew = W2 at HG2 HL2 ⊢
            have hx0 := CX0.out
            have hx1 := HX1.out
            have hX0 := (HL2.out.cell (World.block_lt_of_cell? w5 _ hx0)).trans hx0
            have hX1 := (HL2.out.cell (World.block_lt_of_cell? w5 _ hx1)).trans hx1
            clear hx0 hx1
            go_wp2
            go_roundw
            case rel =>
              refine ⟨k + 1, PE + x, G.set k (gk + x), by go_num, by go_num, ⟨by omega⟩, ⟨by rw [HPE.out, sumI_take (by omega), HXE.out]; omega⟩, ⟨by rw [List.length_set]; exact HGF.out.1, fun q hq => ?_⟩, ⟨(by (with_reducible repeat first | apply ra_ | apply rn_ | apply rd_); exact HG2.out)⟩, ⟨(by repeat first | (with_reducible first | exact HL2.out | apply ba_ | apply bn_ | apply bd_) | exact HL2.out)⟩⟩
              rw [rdN_set (by rw [HGF.out.1]; exact hk)]
              by_cases e : q = k
              · rw [if_pos e, e, if_pos (Nat.lt_succ_self k), HGV.out, HXE.out]
              · rw [if_neg e, HGF.out.2 q hq]
                by_cases h2 : q < k
                · rw [if_pos h2, if_pos (by omega)]
                · rw [if_neg h2, if_neg (by omega)]
            case measure => simp [intOf]; omega
          · have c2 : decide (k < xs.length) = false := decide_eq_false hk
            have hkn : k = xs.length := by have := HK.out; omega
            have HPE2 := am_ (show PE = allS (PS.take (i + 1)) from by rw [HPE.out, HAI.out, show p.take k = p from List.take_of_length_le (by omega)])
            have HGF2 := am_ (show G.length = xs.length ∧ ∀ q, q < xs.length → rdN G q = colS (PS.take (i + 1)) q from ⟨HGF.out.1, fun q hq => by rw [HGF.out.2 q hq, if_pos (by omega), HPI.out]⟩)
            clear hk hkn HPE HGF
            go_wp2
            go_roundw
            case rel => exact ⟨i + 1, PE, G, rfl, by go_num, ⟨by omega⟩, HPE2, HGF2, ⟨(by (with_reducible repeat first | apply ra_ | apply rn_ | apply rd_); exact HG.out)⟩, ⟨(by repeat first | (with_reducible first | exact HL.out | apply ba_ | apply bn_ | apply bd_) | exact HL.out)⟩⟩
            case measure => simp [intOf]; omega
      · have c1 : decide (i < PS.length) = false := decide_eq_false hi
        have hin : i = PS.length := by have := HI.out; omega
        have HPE := am_ (show PD ≤ sumI cs from by rw [HPD.out, hin, List.take_length]; exact HALL.out)
        have HGL := am_ HGF.out.1
        have HGC := am_ (show ∀ k, k < xs.length → rdN G k = colS PS k from fun k hk => by rw [HGF.out.2 k hk, hin, List.take_length])
        clear hi hin HPD HGF
        obtain ⟨W8, hW8⟩ : ∃ W8, W8 = wr := ⟨_, rfl⟩
        subst hW8
        go_wp2_with fail
        go_loopw [15] (fun v15 wz => ∃ k : Nat, v15 = .int .i64 k ∧ Aside0 (k ≤ xs.length) ∧ Aside0 (Below W8.heap.size W8 wz)) (fun v15 _ => xs.length - (intOf v15).toNat)
        case atStart => exact ⟨0, rfl, ⟨Nat.zero_le _⟩, ⟨(by repeat first | (with_reducible first | exact (Below.refl _ _) | apply ba_ | apply bn_ | apply bd_) | exact (Below.refl _ _))⟩⟩
        case round =>
          obtain ⟨k, rfl, HK, HZ⟩ := hrel
          by_cases hk : k < xs.length
          · have c2 : decide (k < xs.length) = true := decide_eq_true hk
            have q0 : (0 : Int) ≤ (k : Int) := by omega
            have q1 : (k : Int) < (xs.length : Int) := by omega
            have q2 : (k : Int) < (DS.length : Int) := by have := HDL.out; omega
            have tn : (k : Int).toNat = k := Int.toNat_natCast k
            obtain ⟨b6, e6⟩ := R_head HD6.out (by omega)
            subst e6
            obtain ⟨b12, e12⟩ := R_head HG.out (by have := HGL.out; omega)
            subst e12
            obtain ⟨a, ha⟩ : ∃ a, a = xs[k] := ⟨_, rfl⟩
            have hag : xs[k]? = some a := by rw [ha]; exact List.getElem?_eq_getElem hk
            obtain ⟨gk, hgk⟩ : ∃ x, x = rdN G k := ⟨_, rfl⟩
            obtain ⟨d, hd⟩ : ∃ x, x = rdN DS k := ⟨_, rfl⟩
            obtain ⟨hf1, hf2, hf3, hf4⟩ := HF.out k a hag
            rw [← HGC.out k hk, ← hgk] at hf4
            rw [← hd] at hf2 hf3 hf4
            obtain ⟨adX, e0, hx0, hx1⟩ := at_T49 (R_C HO3.out) (k : Int) q0 q1
            rw [show rd_T49 xs (k : Int) = a from by rw [rd_T49, Int.toNat_natCast, List.getD_eq_getElem?_getD, hag]; rfl] at hx0 hx1
            simp only [Int.toNat_natCast] at hx0 hx1
            cases e0
            have hy6 : w5.cell? ⟨b6, k, none⟩ = some (.int .i64 d) := by
              have h := (Kd.R_celln 0 HD6.out (k : Int) q0 q2).1
              rw [tn] at h
              rw [hd]; exact h
            have hg1 : W8.cell? ⟨b12, k, none⟩ = some (.int .i64 gk) := by
              have h := (Kd.R_celln 0 HG.out (k : Int) q0 q1).1
              rw [tn] at h
              rw [hgk]; exact h
            have CX1 := am_ ((HL.out.cell (World.block_lt_of_cell? w5 _ hx1)).trans hx1)
            have CX6 := am_ ((HL.out.cell (World.block_lt_of_cell? w5 _ hy6)).trans hy6)
            have CXG := am_ hg1
            clear hx0 hx1 hy6 hg1 ha hag hgk hd
            have d4 : ((gk + d : Int) == a.f1) = true := by simp [hf4]
            have d5 : ((gk + d : Int) != a.f1) = false := by simp [hf4]
            have d6 : decide ((gk + d : Int) = a.f1) = true := decide_eq_true hf4
            have d7 : decide (d < 0) = false := decide_eq_false (by omega)
            have g1 : 0 ≤ gk + d := by omega
            have g2 : gk + d ≤ 1000000000 := by omega
            have g3 : wrap64 (gk + d) = gk + d := wrapId (by omega)
            clear hf1 hf4
            go_upto_region 23 with (fail)
            go_cut [132] from 111 to 132 (fun vc wx => vc = .bool false ∧ Aside0 (Below W8.heap.size W8 wx))
            case first =>
              have hX1 := (HZ.out.cell (World.block_lt_of_cell? W8 _ CX1.out)).trans CX1.out
              have hX6 := (HZ.out.cell (World.block_lt_of_cell? W8 _ CX6.out)).trans CX6.out
              have hXG := (HZ.out.cell (World.block_lt_of_cell? W8 _ CXG.out)).trans CXG.out
              go_quiet (fail)
              go_wp2
              go_meet
              exact ⟨rfl, ⟨(by repeat first | (with_reducible first | exact HZ.out | apply ba_ | apply bn_ | apply bd_) | exact HZ.out)⟩⟩
            case rest =>
              clear HZ
              obtain ⟨rfl, HZ⟩ := hcut
              go_wp2
              go_roundw
              case rel => exact ⟨k + 1, by go_num, ⟨by omega⟩, ⟨(by repeat first | (with_reducible first | exact HZ.out | apply ba_ | apply bn_ | apply bd_) | exact HZ.out)⟩⟩
              case measure => simp [intOf]; omega
          · have c2 : decide (k < xs.length) = false := decide_eq_false hk
            have hl1 : ((PS.length : Int) == (cs.length : Int)) = true := by rw [HPL.out]; simp
            have hl2 : decide ((PS.length : Int) = (cs.length : Int)) = true := by rw [HPL.out]; simp
            have hl3 : decide (PD ≤ sumI cs) = true := decide_eq_true HPE.out
            have hbz := below_step HL.out HZ.out
            have HZZ := am_ hbz
            clear hk hbz
            go_wp2_with fail
            refine (laws_rSum.calls kS A4 c4 cs (sumI cs) _ (by repeat first | exact (Kd.C_below (R_C HO4.out) HZZ.out) | with_reducible refine ca_ ?_ _ | with_reducible refine cn_ ?_ _ | with_reducible refine cd_ ?_) (R_cap HO4.out) HS.out).mono ?_
            rintro e w8 ⟨rfl, hb0⟩
            have hb := db_ hb0
            clear hb0
            have HE := am_ (below_step (below_step HB.out (show Below w5.heap.size w5 _ from (by repeat first | (with_reducible first | exact HZZ.out | apply ba_ | apply bn_ | apply bd_) | exact HZZ.out))) hb)
            clear hb
            go_wp2
            go_ret
            exact ⟨by first | rfl | simp [hl1, hl2, hl3], (by repeat first | (with_reducible first | exact HE.out | apply ba_ | apply bn_ | apply bd_) | exact HE.out)⟩
end Go.Proofs.Ytbnhpkkkijjkkaa.O
