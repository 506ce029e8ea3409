/- Walks of our own, a part of those for the law FnExactRunWaterfall: each function's contract in plain Lean. No condition beyond the bounds that each contract names. -/
import Derived.Test.YtbnhpkkkijjkkaaPureFnExactRunWaterfall
import Derived.Shelf.SlicesE.IndexFunc
import Derived.Shelf.Slices.Clone
import Derived.Shelf.Slices.Turned
import Derived.Sort.LotA
import Derived.Shelf.SlSortCmp.Insertion1
import Derived.Shelf.SlLaysH
import Derived.Shelf.Lays2
import Derived.Shelf.Lays
import Derived.Shelf.SlLaysF
import Derived.Test.YtbnhpkkkijjkkaaOFnExactRunWaterfalla
import Derived.Test.YtbnhpkkkijjkkaaOFnExactRunWaterfallb
import Derived.Test.YtbnhpkkkijjkkaaOFnExactRunWaterfallc
import Derived.Test.YtbnhpkkkijjkkaaOFnExactRunWaterfalld
import Derived.Test.YtbnhpkkkijjkkaaOFnExactRunWaterfalle
import Derived.Test.YtbnhpkkkijjkkaaOFnExactRunWaterfallf
import Derived.Test.YtbnhpkkkijjkkaaOFnExactRunWaterfallg
import Derived.Test.YtbnhpkkkijjkkaaOFnExactRunWaterfallh
namespace Go.Proofs.Ytbnhpkkkijjkkaa.O
open Go.RowKit Go.Proofs.YtbnhpkkkijjkkaaW.PrintWords Go.Proofs.YtbnhpkkkijjkkaaW.PrintLast Go.Proofs.YtbnhpkkkijjkkaaW.PrintMore Go.Proofs.Ytbnhpkkkijjkkaa.PL18D Go.Proofs.Ytbnhpkkkijjkkaa.EvKit Go.Proofs.Ytbnhpkkkijjkkaa.Pure
set_option linter.unusedVariables false
set_option linter.unusedSimpArgs false
attribute [local go_sem] max2_int min2_int max_two min_two max_three min_three max_four min_four
set_option maxHeartbeats 16000000 in
set_option maxRecDepth 100000 in
theorem runIA_c (A0 : Option Addr) (c0 : Nat) (xs : List S49) (A1 : Option Addr) (c1 : Nat) (cs : List Int) (w : World) (hr0 : Kd.C k49 w A0 xs.length xs) (hc0 : xs.length ≤ c0) (hn : xs.length ≤ 1048576) (hr1 : (Kd.int .i64).C w A1 cs.length cs) (hc1 : cs.length ≤ c1) (ha1 : 0 < cs.length → ∃ b, A1 = some ⟨b, 0, none⟩) (hm : cs.length ≤ 1048576) :
    Calls Try.prog 47 #[.slice A0 xs.length c0, .slice A1 cs.length c1] w fun e w' => ∃ v u hs, e = .returned (.tuple #[v, u, .bool (runA xs cs).2.2]) ∧ RowsA w' w.heap.size v hs (runA xs cs).1 ∧ (Kd.int .i64).R 3 w' w.heap.size (fun _ => True) u (runA xs cs).2.1 ∧ (∀ (i : Nat) a, hs[i]? = some a → ∀ k, (encH a).ownBlock = some k → some k ≠ u.ownBlock) ∧ Below w.heap.size w w' := by
  have EG := am_ (show ∀ args w, (callFunc 82 args).run Try.prog w = .ok (.enter 82 args) w from enters_of Try.func82 (by kernel_rfl) rfl)
  have HB := am_ (Below.refl w.heap.size w)
  have HR0 := am_ hr0
  have HC0 := am_ hc0
  have HR1 := am_ hr1
  have HC1 := am_ hc1
  have HA1 := am_ ha1
  obtain ⟨kv, hv⟩ := roundsOf (implValidT_ev xs hn)
  clear hr0 hc0 hr1 hc1 ha1
  by_cases g : goodT xs = true
  rotate_left
  · have g' : goodT xs = false := by simpa using g
    rw [g'] at hv
    have HV := am_ hv
    have HNO := am_ (runA_no (cs := cs) (fun q => g q.1))
    clear hv g g'
    go_enter Try.func47, Try.ntmps47
    go_wp2_with fail
    refine (impl_IsValidTranches.calls kv A0 c0 xs false _ (by repeat first | exact (Kd.C_below HR0.out HB.out) | with_reducible refine ca_ ?_ _ | with_reducible refine cn_ ?_ _ | with_reducible refine cd_ ?_) HC0.out HV.out).mono ?_
    rintro e w1 ⟨rfl, hb⟩
    replace HB := am_ (below_step (by repeat first | (with_reducible first | exact HB.out | apply ba_ | apply bn_ | apply bd_) | exact HB.out) hb); clear hb
    go_wp2
    go_ret3
    exact ⟨_, _, [], by rw [HNO.out]; rfl, by rw [HNO.out]; exact RowsA.nil (Kd.R_nil _ _ _ _ _), by rw [HNO.out]; exact Kd.R_nil _ _ _ _ _, by simp, (by repeat first | (with_reducible first | exact HB.out | apply ba_ | apply bn_ | apply bd_) | exact HB.out)⟩
  rw [g] at hv
  have HV := am_ hv
  clear hv
  by_cases ham : okAm cs
  rotate_left
  · have HAM := am_ (show amsF cs = some false from by rw [amsF_eq, decide_eq_false ham])
    have HNO := am_ (runA_no (xs := xs) (cs := cs) (fun q => ham ⟨q.2.2.1, fun x hx => by have := q.2.1 x hx; omega⟩))
    clear g ham
    go_enter Try.func47, Try.ntmps47
    go_wp2_with fail
    refine (impl_IsValidTranches.calls kv A0 c0 xs true _ (by repeat first | exact (Kd.C_below HR0.out HB.out) | with_reducible refine ca_ ?_ _ | with_reducible refine cn_ ?_ _ | with_reducible refine cd_ ?_) HC0.out HV.out).mono ?_
    rintro e w1 ⟨rfl, hb⟩
    replace HB := am_ (below_step (by repeat first | (with_reducible first | exact HB.out | apply ba_ | apply bn_ | apply bd_) | exact HB.out) hb); clear hb
    go_wp2_with fail
    refine (areAms_c A1 c1 cs false HAM.out _ (by repeat first | exact (Kd.C_below HR1.out HB.out) | with_reducible refine ca_ ?_ _ | with_reducible refine cn_ ?_ _ | with_reducible refine cd_ ?_) HA1.out).mono ?_
    rintro e w2 ⟨rfl, hb⟩
    replace HB := am_ (below_step (by repeat first | (with_reducible first | exact HB.out | apply ba_ | apply bn_ | apply bd_) | exact HB.out) hb); clear hb
    go_wp2
    go_ret3
    exact ⟨_, _, [], by rw [HNO.out]; rfl, by rw [HNO.out]; exact RowsA.nil (Kd.R_nil _ _ _ _ _), by rw [HNO.out]; exact Kd.R_nil _ _ _ _ _, by simp, (by repeat first | (with_reducible first | exact HB.out | apply ba_ | apply bn_ | apply bd_) | exact HB.out)⟩
  have HAM := am_ (show amsF cs = some true from by rw [amsF_eq, decide_eq_true ham])
  by_cases hng : cs.any (fun x => decide (x < 0)) = true
  · have HNG := am_ hng
    have HNO := am_ (runA_no (xs := xs) (cs := cs) (fun q => by
      obtain ⟨x, hx, hlt⟩ := List.any_eq_true.mp hng
      have h1 := q.2.1 x hx
      have h2 := of_decide_eq_true hlt
      omega))
    clear g ham hng
    go_enter Try.func47, Try.ntmps47
    go_wp2_with fail
    refine (impl_IsValidTranches.calls kv A0 c0 xs true _ (by repeat first | exact (Kd.C_below HR0.out HB.out) | with_reducible refine ca_ ?_ _ | with_reducible refine cn_ ?_ _ | with_reducible refine cd_ ?_) HC0.out HV.out).mono ?_
    rintro e w1 ⟨rfl, hb⟩
    replace HB := am_ (below_step (by repeat first | (with_reducible first | exact HB.out | apply ba_ | apply bn_ | apply bd_) | exact HB.out) hb); clear hb
    go_wp2_with fail
    refine (areAms_c A1 c1 cs true HAM.out _ (by repeat first | exact (Kd.C_below HR1.out HB.out) | with_reducible refine ca_ ?_ _ | with_reducible refine cn_ ?_ _ | with_reducible refine cd_ ?_) HA1.out).mono ?_
    rintro e w2 ⟨rfl, hb⟩
    replace HB := am_ (below_step (by repeat first | (with_reducible first | exact HB.out | apply ba_ | apply bn_ | apply bd_) | exact HB.out) hb); clear hb
    go_wp2_with fail
    refine (containsFunc_c 82 EG.out #[] (fun x => decide (x < 0)) A1 c1 cs _ (negPred _) (by repeat first | exact (Kd.C_below HR1.out HB.out) | with_reducible refine ca_ ?_ _ | with_reducible refine cn_ ?_ _ | with_reducible refine cd_ ?_) HA1.out).mono ?_
    rw [HNG.out]
    rintro e w3 ⟨rfl, ⟨q3, rfl⟩⟩
    go_wp2
    go_ret3
    exact ⟨_, _, [], by rw [HNO.out]; rfl, by rw [HNO.out]; exact RowsA.nil (Kd.R_nil _ _ _ _ _), by rw [HNO.out]; exact Kd.R_nil _ _ _ _ _, by simp, (by repeat first | (with_reducible first | exact HB.out | apply ba_ | apply bn_ | apply bd_) | exact HB.out)⟩
  have hng' : cs.any (fun x => decide (x < 0)) = false := by simpa using hng
  have hcb : ∀ x ∈ cs, 0 ≤ x ∧ x ≤ 1000000000 := fun x hx => by
    have h1 := List.any_eq_false.mp hng' x hx
    have h2 : ¬ x < 0 := fun h => h1 (decide_eq_true h)
    have h3 := ham.2 x hx
    omega
  have HNG := am_ hng'
  have HCB := am_ hcb
  have hs0 := sumI_nonneg cs (fun c hc => (hcb c hc).1)
  have hs1 := sumI_le cs 1000000000 (fun c hc => (hcb c hc).2)
  have hl := ham.1
  have hsa := isAmount_eq (sumI cs)
  by_cases hsm : sumI cs ≤ 1000000000
  rotate_left
  · rw [decide_eq_false (fun q => hsm q.2)] at hsa
    have HSA := am_ hsa
    have HNO := am_ (runA_no (xs := xs) (cs := cs) (fun q => hsm q.2.2.2))
    clear g ham hng hng' hcb hsa hsm
    go_enter Try.func47, Try.ntmps47
    go_wp2_with fail
    refine (impl_IsValidTranches.calls kv A0 c0 xs true _ (by repeat first | exact (Kd.C_below HR0.out HB.out) | with_reducible refine ca_ ?_ _ | with_reducible refine cn_ ?_ _ | with_reducible refine cd_ ?_) HC0.out HV.out).mono ?_
    rintro e w1 ⟨rfl, hb⟩
    replace HB := am_ (below_step (by repeat first | (with_reducible first | exact HB.out | apply ba_ | apply bn_ | apply bd_) | exact HB.out) hb); clear hb
    go_wp2_with fail
    refine (areAms_c A1 c1 cs true HAM.out _ (by repeat first | exact (Kd.C_below HR1.out HB.out) | with_reducible refine ca_ ?_ _ | with_reducible refine cn_ ?_ _ | with_reducible refine cd_ ?_) HA1.out).mono ?_
    rintro e w2 ⟨rfl, hb⟩
    replace HB := am_ (below_step (by repeat first | (with_reducible first | exact HB.out | apply ba_ | apply bn_ | apply bd_) | exact HB.out) hb); clear hb
    go_wp2_with fail
    refine (containsFunc_c 82 EG.out #[] (fun x => decide (x < 0)) A1 c1 cs _ (negPred _) (by repeat first | exact (Kd.C_below HR1.out HB.out) | with_reducible refine ca_ ?_ _ | with_reducible refine cn_ ?_ _ | with_reducible refine cd_ ?_) HA1.out).mono ?_
    rw [HNG.out]
    rintro e w3 ⟨rfl, ⟨q3, rfl⟩⟩
    go_wp2_with fail
    refine (sumOf_c A1 cs.length c1 cs _ rfl (by repeat first | exact (Kd.C_below HR1.out HB.out) | with_reducible refine ca_ ?_ _ | with_reducible refine cn_ ?_ _ | with_reducible refine cd_ ?_) HC1.out HCB.out hm).mono ?_
    rintro e w4 ⟨rfl, ⟨q4, rfl⟩⟩
    go_wp2_with fail
    refine (impl_isAmount.calls (sumI cs) false _ HSA.out).mono ?_
    rintro e w5 ⟨rfl, ⟨q5, rfl⟩⟩
    go_wp2
    go_ret3
    exact ⟨_, _, [], by rw [HNO.out]; rfl, by rw [HNO.out]; exact RowsA.nil (Kd.R_nil _ _ _ _ _), by rw [HNO.out]; exact Kd.R_nil _ _ _ _ _, by simp, (by repeat first | (with_reducible first | exact HB.out | apply ba_ | apply bn_ | apply bd_) | exact HB.out)⟩
  rw [decide_eq_true (show -1000000000 ≤ sumI cs ∧ sumI cs ≤ 1000000000 from ⟨by omega, hsm⟩)] at hsa
  have HSA := am_ hsa
  have OK := am_ (show okCash cs from ⟨hcb, hl, hsm⟩)
  have G := am_ g
  have hn20 := (good_parts g).2
  obtain ⟨ku, hu⟩ := roundsOf ranksUp_ev
  have HU := am_ hu
  clear g ham hng hng' hcb hsa hsm hs0 hs1 hu
  go_enter Try.func47, Try.ntmps47
  go_wp2_with fail
  refine (impl_IsValidTranches.calls kv A0 c0 xs true _ (by repeat first | exact (Kd.C_below HR0.out HB.out) | with_reducible refine ca_ ?_ _ | with_reducible refine cn_ ?_ _ | with_reducible refine cd_ ?_) HC0.out HV.out).mono ?_
  rintro e w1 ⟨rfl, hb⟩
  replace HB := am_ (below_step (by repeat first | (with_reducible first | exact HB.out | apply ba_ | apply bn_ | apply bd_) | exact HB.out) hb); clear hb
  go_wp2_with fail
  refine (areAms_c A1 c1 cs true HAM.out _ (by repeat first | exact (Kd.C_below HR1.out HB.out) | with_reducible refine ca_ ?_ _ | with_reducible refine cn_ ?_ _ | with_reducible refine cd_ ?_) HA1.out).mono ?_
  rintro e w2 ⟨rfl, hb⟩
  replace HB := am_ (below_step (by repeat first | (with_reducible first | exact HB.out | apply ba_ | apply bn_ | apply bd_) | exact HB.out) hb); clear hb
  go_wp2_with fail
  refine (containsFunc_c 82 EG.out #[] (fun x => decide (x < 0)) A1 c1 cs _ (negPred _) (by repeat first | exact (Kd.C_below HR1.out HB.out) | with_reducible refine ca_ ?_ _ | with_reducible refine cn_ ?_ _ | with_reducible refine cd_ ?_) HA1.out).mono ?_
  rw [HNG.out]
  rintro e w3 ⟨rfl, ⟨q3, rfl⟩⟩
  go_wp2_with fail
  refine (sumOf_c A1 cs.length c1 cs _ rfl (by repeat first | exact (Kd.C_below HR1.out HB.out) | with_reducible refine ca_ ?_ _ | with_reducible refine cn_ ?_ _ | with_reducible refine cd_ ?_) HC1.out HCB.out hm).mono ?_
  rintro e w4 ⟨rfl, ⟨q4, rfl⟩⟩
  go_wp2_with fail
  refine (impl_isAmount.calls (sumI cs) true _ HSA.out).mono ?_
  rintro e w5 ⟨rfl, ⟨q5, rfl⟩⟩
  go_wp2_with fail
  refine (cloneT_c A0 c0 xs _ (by repeat first | exact (Kd.C_below HR0.out HB.out) | with_reducible refine ca_ ?_ _ | with_reducible refine cn_ ?_ _ | with_reducible refine cd_ ?_) hn).mono ?_
  rintro e w6 ⟨v7, rfl, ho, hb⟩
  have HT7 := am_ (Kd.R_lower ho (show w.heap.size ≤ _ from below_size (by repeat first | (with_reducible first | exact HB.out | apply ba_ | apply bn_ | apply bd_) | exact HB.out)))
  replace HB := am_ (below_step (by repeat first | (with_reducible first | exact HB.out | apply ba_ | apply bn_ | apply bd_) | exact HB.out) hb); clear hb
  clear ho
  obtain ⟨A7, c7, e7⟩ := Kd.R_slice HT7.out
  subst e7
  go_wp2_with (((with_reducible refine gate_dst (N := 38) rfl ?_); refine Kd.R_lit KV w.heap.size 51 (w0 := w) ?hg (N := 38) ?hd (xs := []) (inner := []) (ok := fun _ => True) (okp := fun _ => True) ?hr ?hp (fun _ hk => hk) trivial (by repeat first | (with_reducible first | exact HB.out | apply ba_ | apply bn_ | apply bd_) | exact HB.out) (below_size (by repeat first | (with_reducible first | exact HB.out | apply ba_ | apply bn_ | apply bd_) | exact HB.out)) (by simp) ?_; (case hd => rfl); (case hg => rfl); (case hr => first | (go_simp; done) | (go_simp; rfl)); (case hp => exact (Reps.none _ _)); intro v1 w1 ho hb hgr hnw); have HP8 := am_ (RowsA.nil ho); have n_ := am_ (Kd.R_grown (by (with_reducible repeat first | apply ra_ | apply rn_ | apply rd_); exact HT7.out) hgr (fun _ _ e => by cases e)); clear HB HT7; have HT7 := n_; have HB := am_ hb; clear n_ ho hb hgr hnw)
  -- HERE1
  go_loopw [8, 9, 41] (fun v8 v9 v41 wr => ∃ (j : Nat) (rs : Int) (parts : List (List Int)) (hs : List (Option Addr × Nat × Nat)) (cur : List S49), v9 = .int .i64 rs ∧ v41 = .int .i64 j ∧ Aside0 (j ≤ cs.length) ∧ Aside0 (cur.length = xs.length) ∧ Aside0 (goodT cur = true) ∧ Aside0 (0 ≤ rs ∧ rs + sumI (cs.drop j) ≤ 1000000000) ∧ Aside0 (runW xs 0 cs = (parts ++ (runW cur rs (cs.drop j)).1, (runW cur rs (cs.drop j)).2)) ∧ Aside0 (parts.length = j) ∧ Aside0 (RowsA wr w.heap.size v8 hs parts) ∧ Aside0 (Kd.R k49 49 wr w.heap.size (fun _ => True) (.slice A7 xs.length c7) cur) ∧ Aside0 (Below w.heap.size w wr)) (fun _ _ v41 _ => cs.length - (intOf v41).toNat)
  case atStart => exact ⟨0, 0, [], [], xs, rfl, rfl, ⟨Nat.zero_le _⟩, ⟨rfl⟩, G, ⟨by have := OK.out.2.2; rw [List.drop_zero]; omega⟩, ⟨by rw [List.drop_zero, List.nil_append]⟩, ⟨rfl⟩, ⟨(by (with_reducible repeat first | apply RowsA.alloc | apply RowsA.drewN | apply RowsA.drew); exact HP8.out)⟩, ⟨(by (with_reducible repeat first | apply ra_ | apply rn_ | apply rd_); exact HT7.out)⟩, ⟨(by repeat first | (with_reducible first | exact HB.out | apply ba_ | apply bn_ | apply bd_) | exact HB.out)⟩⟩
  case round =>
    clear HP8 HT7 HB
    obtain ⟨j, rs, parts, hs, cur, rfl, rfl, HJ, HCL, HGC, HRS, HRW, HPL, HP8, HT7, HB⟩ := hrel
    by_cases hj : j < cs.length
    · have d1 : decide (j < cs.length) = true := decide_eq_true hj
      obtain ⟨c, hc⟩ : ∃ c, c = cs[j] := ⟨_, rfl⟩
      have hdr : cs.drop j = c :: cs.drop (j + 1) := by rw [hc]; exact List.drop_eq_getElem_cons hj
      have hcb := OK.out.1 c (by rw [hc]; exact List.getElem_mem hj)
      have hnn := sumI_nonneg (cs.drop (j + 1)) (fun x hx => (OK.out.1 x (List.mem_of_mem_drop hx)).1)
      have hrs := HRS.out
      have hrw := HRW.out
      rw [hdr] at hrs hrw
      simp only [sumI, runW] at hrs hrw
      have hb : 0 ≤ rs + c ∧ rs + c ≤ 1000000000 := by omega
      have sv := dist_facts HGC.out hb
      have hdy := distA_yes (rs := ranksL) HGC.out hb
      have hok := distA_ok (show (distA ranksL cur (rs + c)).2.2 = true from by rw [hdy])
      have hsi := serveI_eq (good_parts HGC.out).1 ranksL (rs + c) (by decide) hb
      obtain ⟨SV, hSV⟩ : ∃ S, S = serveS cur ranksL (zerosN cur.length) (rs + c) := ⟨_, rfl⟩
      rw [← hSV] at hdy hsi
      rw [hdy] at hrw sv hok
      clear hdy hSV
      obtain ⟨ps, lf⟩ := SV
      simp only at hrw sv hok hsi
      have HPB := am_ hok.1
      have hs_ := sv.sum
      have hps_ := sumI_nonneg ps (fun x hx => (hok.1 x hx).1)
      have HRS2R := am_ (show 0 ≤ lf ∧ lf + sumI (cs.drop (j + 1)) ≤ 1000000000 from ⟨sv.bd.1, by omega⟩)
      have HRW3 := am_ (show runW xs 0 cs = ((parts ++ [ps]) ++ (runW (subT cur ps) lf (cs.drop (j + 1))).1, (runW (subT cur ps) lf (cs.drop (j + 1))).2) from by rw [hrw, List.append_assoc]; rfl)
      clear hok hs_ hps_ hrw
      have HSI := am_ hsi
      have HSV := am_ sv
      obtain ⟨ad, e0, hy⟩ := Kd.at_int HR1.out (j : Int) (by omega) (by omega)
      have hcd : rd cs (j : Int) = c := by rw [rd, Int.toNat_natCast, List.getD_eq_getElem?_getD, List.getElem?_eq_getElem hj, hc]; rfl
      rw [hcd] at hy
      simp only [Int.toNat_natCast] at hy
      cases e0
      have hy1 := (HB.out.cell (World.block_lt_of_cell? w _ hy)).trans hy
      have q0 : (0 : Int) ≤ (j : Int) := by omega
      have q1 : (j : Int) < (cs.length : Int) := by omega
      have tn : (j : Int).toNat = j := Int.toNat_natCast _
      have b0 := hb.1
      have b1 := hb.2
      have HBD := am_ hb
      clear hsi sv hrs hy hc hdr hcd hnn hb
      go_wp2_with fail
      refine (impl_ranksUp.calls ku ranksL _ HU.out).mono ?_
      rintro e w8 ⟨vr, rfl, ho, hb⟩
      have HRU := am_ (Kd.R_lower ho (show w.heap.size ≤ _ from below_size (by repeat first | (with_reducible first | exact HB.out | apply ba_ | apply bn_ | apply bd_) | exact HB.out)))
      have hb0_ := hb
      have np_ := am_ (RowsA.below (by (with_reducible repeat first | apply RowsA.alloc | apply RowsA.drewN | apply RowsA.drew); exact HP8.out) hb)
      clear HP8
      have HP8 := np_
      clear np_ hb0_
      replace HT7 := am_ (Kd.R_below (by (with_reducible repeat first | apply ra_ | apply rn_ | apply rd_); exact HT7.out) hb); replace HB := am_ (below_step (by repeat first | (with_reducible first | exact HB.out | apply ba_ | apply bn_ | apply bd_) | exact HB.out) hb); clear hb
      clear ho hy1
      obtain ⟨gr, cr, er, hgr, _, _⟩ := Kd.R_form HRU.out (by decide)
      obtain rfl : vr = .slice (some ⟨gr, 0, none⟩) 10 cr := er
      go_wp2_with fail
      refine calls_of_args (args' := #[.slice A7 cur.length c7, .int .i64 (rs + c), .slice (some ⟨gr, 0, none⟩) ranksL.length cr]) (by rw [HCL.out]; rfl) ?_
      have hcc_ := R_C HT7.out
      rw [← HCL.out] at hcc_
      have HCC_ := am_ hcc_
      have hcp := R_cap HT7.out
      have HCP := am_ (show cur.length ≤ c7 from by rw [HCL.out]; exact hcp)
      clear hcc_ hcp
      refine (served_c A7 c7 gr cr cur ranksL (rs + c) _ (by repeat first | exact HCC_.out | with_reducible refine ca_ ?_ _ | with_reducible refine cn_ ?_ _ | with_reducible refine cd_ ?_) HCP.out (good_parts HGC.out).1 (by rw [HCL.out]; exact hn20) HBD.out (by repeat first | exact (R_C HRU.out) | with_reducible refine ca_ ?_ _ | with_reducible refine cn_ ?_ _ | with_reducible refine cd_ ?_) (R_cap HRU.out) (by decide)).mono ?_
      rw [HSI.out]
      rintro e w9 ⟨v12, rfl, ho, hb⟩
      have HAP := am_ (show ∀ (i : Nat) a, hs[i]? = some a → ∀ k, (encH a).ownBlock = some k → v12.ownBlock ≠ some k from fun i a hi k hk he => absurd (HP8.out.lt hi hk).2 (Nat.not_lt.mpr (Kd.R_base ho k he)))
      have HG12 := am_ (Kd.R_lower ho (show w.heap.size ≤ _ from below_size (by repeat first | (with_reducible first | exact HB.out | apply ba_ | apply bn_ | apply bd_) | exact HB.out)))
      have hb0_ := hb
      have np_ := am_ (RowsA.below (by (with_reducible repeat first | apply RowsA.alloc | apply RowsA.drewN | apply RowsA.drew); exact HP8.out) hb)
      clear HP8
      have HP8 := np_
      clear np_ hb0_
      replace HT7 := am_ (Kd.R_below (by (with_reducible repeat first | apply ra_ | apply rn_ | apply rd_); exact HT7.out) hb); replace HB := am_ (below_step (by repeat first | (with_reducible first | exact HB.out | apply ba_ | apply bn_ | apply bd_) | exact HB.out) hb); clear hb
      clear ho HRU HCC_
      have hpl : ps.length = xs.length := HSV.out.len.trans HCL.out
      obtain ⟨A12, c12, e12⟩ := Kd.R_slice HG12.out
      rw [hpl] at e12
      subst e12
      go_wp2_with fail
      -- HERE2
      go_loopw [56] (fun v56 wr => ∃ k : Nat, v56 = .int .i64 k ∧ Aside0 (k ≤ xs.length) ∧ Aside0 (RowsA wr w.heap.size u8 hs parts) ∧ Aside0 ((Kd.int .i64).R 3 wr w.heap.size (fun _ => True) (.slice A12 xs.length c12) ps) ∧ Aside0 (Kd.R k49 49 wr w.heap.size (fun _ => True) (.slice A7 xs.length c7) ((subT cur ps).take k ++ cur.drop k)) ∧ Aside0 (Below w.heap.size w wr)) (fun v56 _ => xs.length - (intOf v56).toNat)
      case atStart => exact ⟨0, rfl, ⟨Nat.zero_le _⟩, ⟨(by (with_reducible repeat first | apply RowsA.alloc | apply RowsA.drewN | apply RowsA.drew); exact HP8.out)⟩, ⟨(by (with_reducible repeat first | apply ra_ | apply rn_ | apply rd_); exact HG12.out)⟩, ⟨by rw [List.take_zero, List.nil_append, List.drop_zero]; exact (by (with_reducible repeat first | apply ra_ | apply rn_ | apply rd_); exact HT7.out)⟩, ⟨(by repeat first | (with_reducible first | exact HB.out | apply ba_ | apply bn_ | apply bd_) | exact HB.out)⟩⟩
      case round =>
        clear HP8 HT7 HG12 HB
        obtain ⟨k, rfl, HK, HP8, HG12, HT7, HB⟩ := hrel
        by_cases hk : k < xs.length
        · have d1k : decide (k < xs.length) = true := decide_eq_true hk
          have hkc : k < cur.length := by rw [HCL.out]; exact hk
          obtain ⟨a, ha⟩ : ∃ a, a = cur[k] := ⟨_, rfl⟩
          have hak : cur[k]? = some a := by rw [ha]; exact List.getElem?_eq_getElem hkc
          have HLK := am_ hkc
          obtain ⟨b7, e7⟩ := R_head HT7.out (by rw [List.length_append, List.length_drop]; omega)
          subst e7
          obtain ⟨b12, e12⟩ := R_head HG12.out (by rw [hpl]; omega)
          subst e12
          have q0 : (0 : Int) ≤ (k : Int) := by omega
          have q1 : (k : Int) < (xs.length : Int) := by omega
          have tn : (k : Int).toNat = k := Int.toNat_natCast _
          obtain ⟨c_, hcl, hcM, hcc, hcf⟩ := Kd.R_elem HT7.out ⟨0, 0⟩ (k : Int) q0 q1
          have HEL := am_ (elemT HLK.out (hpl.trans HCL.out.symm) hak)
          rw [tn, HEL.out] at hcM
          obtain rfl := k49_openM hcM
          rw [tn] at hcc hcf
          have y1 : wr.cell? ⟨b7, k * 2 + 1, none⟩ = some (.int .i64 a.f1) := hcc 1 _ rfl
          have f1 : wr.frozen? ⟨b7, k * 2 + 1, none⟩ = false := hcf 1
          obtain ⟨y12, f12⟩ := Kd.R_celln 0 HG12.out (k : Int) q0 q1
          rw [tn] at y12 f12
          obtain ⟨P, hP⟩ : ∃ P, P = rdOf 0 ps (k : Int) := ⟨_, rfl⟩
          rw [← hP] at y12
          have hPm : P ∈ ps := by
            have hk' : k < ps.length := by rw [hpl]; exact hk
            rw [hP, rdOf, tn, List.getD_eq_getElem?_getD, List.getElem?_eq_getElem hk']
            exact List.getElem_mem hk'
          have hPb := HPB.out P hPm
          have hab := (good_parts HGC.out).1 a (by rw [ha]; exact List.getElem_mem hkc)
          have p0 := hPb.1
          have p1 := hPb.2
          have a0 := hab.2.1
          have a1 := hab.2.2
          have HA := am_ hak
          have HPR := am_ (show P = rdN ps k from hP)
          have HC := am_ hcc
          clear hcc hcf hcM hcl ha hPb hab hPm hP hak
          go_upto_region 13 with (fail)
          go_region
          clear y1 f1 y12 f12
          have s10 := (Kd.R_seg HT7.out (k : Int) q0 q1 (c := [.int .i64 a.f0, .int .i64 a.f1]) (seg := [.int .i64 (a.f1 - P)]) (j := 1) (okp := fun _ => False) (x' := ⟨a.f0, a.f1 - P⟩) rfl HC.out (Nat.le_refl 2) (k49_mkM _ _ _ _) (fun _ h => h.elim)).1
          have e_ := setT HLK.out (hpl.trans HCL.out.symm) HA.out
          rw [← HPR.out] at e_
          rw [show ((k : Int).toNat) = k from rfl, e_] at s10
          obtain ⟨cb, hcb⟩ := own_typed (Kd.R_own HT7.out).choose_spec b7 rfl
          have S8 := am_ (RowsA.off HP8.out hcb (by decide) (by decide) (k * 2 + 1) (.int .i64 (a.f1 - P)))
          have S12 := am_ (R_offTy HG12.out hcb (by decide) (k * 2 + 1) (.int .i64 (a.f1 - P)))
          have S7 := am_ (show Kd.R k49 49 (wr.setCell ⟨b7, k * 2 + 1, none⟩ (.int .i64 (a.f1 - P))) w.heap.size (fun _ => True) (.slice (some ⟨b7, 0, none⟩) xs.length c7) ((subT cur ps).take (k + 1) ++ cur.drop (k + 1)) from s10)
          have hge := Kd.R_base HT7.out b7 rfl
          have SB := am_ (below_set (j := k * 2 + 1) (v := .int .i64 (a.f1 - P)) HB.out hge)
          clear hcb s10 HP8 HG12 HT7 HB
          go_wp2
          go_roundw
          case rel => exact ⟨k + 1, rfl, ⟨by omega⟩, ⟨(by (with_reducible repeat first | apply RowsA.alloc | apply RowsA.drewN | apply RowsA.drew); exact S8.out)⟩, ⟨(by (with_reducible repeat first | apply ra_ | apply rn_ | apply rd_); exact S12.out)⟩, ⟨(by (with_reducible repeat first | apply ra_ | apply rn_ | apply rd_); exact S7.out)⟩, ⟨(by repeat first | (with_reducible first | exact SB.out | apply ba_ | apply bn_ | apply bd_) | exact SB.out)⟩⟩
          case measure => simp [intOf]; omega
        · have d2 : decide (k < xs.length) = false := decide_eq_false hk
          have hkn : k = xs.length := by have := HK.out; omega
          have hsl := subT_len cur ps (hpl.trans HCL.out.symm)
          have m10 := am_ (show Kd.R k49 49 wr w.heap.size (fun _ => True) (.slice A7 xs.length c7) (subT cur ps) from by
            have h := HT7.out
            rw [hkn, List.take_of_length_le (by rw [hsl, HCL.out]; exact Nat.le_refl _), List.drop_eq_nil_of_le (by rw [HCL.out]; exact Nat.le_refl _), List.append_nil] at h
            exact h)
          have hpn : parts.length ≤ 20 := by have := HPL.out; omega
          have HHL := am_ (HP8.out.len)
          have hhn : hs.length ≤ 20 := by rw [HHL.out]; exact hpn
          have HLEN := am_ (hsl.trans HCL.out)
          have HG2 := am_ (goodT_sub HGC.out HSV.out.len HSV.out.fit)
          clear hkn hsl hk HT7 hpl
          have HT7 := m10
          clear m10
          go_wp2_with ((with_reducible refine gate_builtin (b := .append) (xs := #[.tmp 72, .tmp 74]) rfl ?_); at_builtin; refine Aside0.out ?_)
          refine am_ ?_
          refine Kd.R_append KV (w0 := w) w.heap.size rfl (.tmp 72) (.tmp 74) 65 51 (.slice none 0 0) 24 rfl Try.underlying65 infoS rfl (by decide) (by omega) u8 hs (A12, xs.length, c12) [.slice A12 xs.length c12] (fun _ => True) (fun _ => False) rfl rfl ?aP (fun _ hk => hk.elim) ?aF ?aO ?aB ?aS ?aL ?_
          case aP => exact rfl
          case aB => exact (by repeat first | (with_reducible first | exact HB.out | apply ba_ | apply bn_ | apply bd_) | exact HB.out)
          case aF => exact (fun _ _ => trivial)
          case aO => exact (by (with_reducible repeat first | apply ra_ | apply rn_ | apply rd_); exact HP8.out.row)
          case aS => exact below_size (by repeat first | (with_reducible first | exact HB.out | apply ba_ | apply bn_ | apply bd_) | exact HB.out)
          case aL => omega
          intro v1 w1 ho hb hg hat
          have n10 := am_ (Kd.R_mono (Kd.R_grown (w := _) (R_types2 (by (with_reducible repeat first | apply ra_ | apply rn_ | apply rd_); exact HT7.out) (by (with_reducible repeat first | apply ra_ | apply rn_ | apply rd_); exact HP8.out.row) (by decide)) hg (fun q hq e => hq e)) (fun _ _ => trivial))
          have n8 := am_ (RowsA.push (by (with_reducible repeat first | apply RowsA.alloc | apply RowsA.drewN | apply RowsA.drew); exact HP8.out) ho hg (by (with_reducible repeat first | apply ra_ | apply rn_ | apply rd_); exact HG12.out) HAP.out)
          clear HP8 HB HT7
          have HT7 := n10
          have HP8 := n8
          clear n10 n8
          have HB := am_ hb
          clear ho hb hg hat
          go_wp2
          go_roundw
          case rel => exact ⟨j + 1, lf, parts ++ [ps], hs ++ [(A12, xs.length, c12)], subT cur ps, rfl, rfl, ⟨by omega⟩, HLEN, HG2, HRS2R, HRW3, ⟨by rw [List.length_append, HPL.out]; rfl⟩, ⟨(by (with_reducible repeat first | apply RowsA.alloc | apply RowsA.drewN | apply RowsA.drew); exact HP8.out)⟩, ⟨(by (with_reducible repeat first | apply ra_ | apply rn_ | apply rd_); exact HT7.out)⟩, ⟨(by repeat first | (with_reducible first | exact HB.out | apply ba_ | apply bn_ | apply bd_) | exact HB.out)⟩⟩
          case measure => simp [intOf]; omega
    · have d1 : decide (j < cs.length) = false := decide_eq_false hj
      have hjn : j = cs.length := by have := HJ.out; omega
      have HFIN := am_ (show runA xs cs = (parts, cur.map (fun a => a.f1), true) from by
        have h := HRW.out
        rw [hjn, List.drop_length] at h
        rw [runA_yes G.out OK.out, h]
        simp [runW])
      clear hjn hj
      go_upto_region 18 with (fail)
      obtain ⟨W0, hW0⟩ : ∃ W0, W0 = wr := ⟨_, rfl⟩
      subst hW0
      have HBR := am_ (Below.refl W0.heap.size W0)
      go_wp2_with (((with_reducible refine gate_dst (N := 78) rfl ?_); refine Kd.R_lit (Kd.int .i64) W0.heap.size 3 (w0 := W0) ?hg (N := 78) ?hd (xs := []) (inner := []) (ok := fun _ => True) (okp := fun _ => True) ?hr ?hp (fun _ hk => hk) trivial (by repeat first | (with_reducible first | exact HBR.out | apply ba_ | apply bn_ | apply bd_) | exact HBR.out) (below_size (by repeat first | (with_reducible first | exact HBR.out | apply ba_ | apply bn_ | apply bd_) | exact HBR.out)) (by simp) ?_; (case hd => rfl); (case hg => rfl); (case hr => first | (go_simp; done) | (go_simp; rfl)); (case hp => exact (Reps.none _ _)); intro v1 w1 ho hb hgr hnw); have HO15 := am_ ho; have HBW := am_ hb; clear HBR ho hb hgr hnw)
      have MB := am_ (show ∀ (i : Nat) a, hs[i]? = some a → ∀ k, (encH a).ownBlock = some k → k < W0.heap.size from fun i a hi k hk => (HP8.out.lt hi hk).2)
      have n_ := am_ (RowsA.below HP8.out HBW.out)
      have m_ := am_ (Kd.R_below HT7.out HBW.out)
      clear HP8 HT7
      -- HERE3
      go_loopw [15, 81] (fun v15 v81 wz => ∃ (dn rt : List S49), v81 = .int .i64 dn.length ∧ Aside0 (cur = dn ++ rt) ∧ Aside0 (RowsA wz w.heap.size u8 hs parts) ∧ Aside0 ((Kd.int .i64).R 3 wz W0.heap.size (fun _ => True) v15 (dn.map (fun a => a.f1))) ∧ Aside0 (Kd.R k49 49 wz w.heap.size (fun _ => True) (.slice A7 xs.length c7) cur) ∧ Aside0 (Below W0.heap.size W0 wz)) (fun _ v81 _ => xs.length - (intOf v81).toNat)
      case atStart => exact ⟨[], cur, rfl, ⟨rfl⟩, ⟨(by (with_reducible repeat first | apply RowsA.alloc | apply RowsA.drewN | apply RowsA.drew); exact n_.out)⟩, ⟨(by (with_reducible repeat first | apply ra_ | apply rn_ | apply rd_); exact HO15.out)⟩, ⟨(by (with_reducible repeat first | apply ra_ | apply rn_ | apply rd_); exact m_.out)⟩, ⟨(by repeat first | (with_reducible first | exact HBW.out | apply ba_ | apply bn_ | apply bd_) | exact HBW.out)⟩⟩
      case round =>
        clear n_ m_ HO15 HBW
        obtain ⟨dn, rt, rfl, HX, HP8, HO15, HT7, HBW⟩ := hrel
        have hcl := HCL.out
        cases rt with
        | nil =>
          have d2 : decide (dn.length < xs.length) = false := decide_eq_false (by have := len_nil HX.out; omega)
          have hdn : cur = dn := by simpa using HX.out
          have HD := am_ (show (Kd.int .i64).R 3 wr w.heap.size (fun _ => True) u15 (cur.map (fun a => a.f1)) from by rw [hdn]; exact Kd.R_lower HO15.out (below_size (by repeat first | (with_reducible first | exact HB.out | apply ba_ | apply bn_ | apply bd_) | exact HB.out)))
          have HZ := am_ (below_step HB.out HBW.out)
          have HNU := am_ (show ∀ (i : Nat) a, hs[i]? = some a → ∀ k, (encH a).ownBlock = some k → some k ≠ u15.ownBlock from fun i a hi k hk he => absurd (MB.out i a hi k hk) (Nat.not_lt.mpr (Kd.R_base HO15.out k he.symm)))
          clear HX hdn HBW HB HO15
          go_wp2
          go_ret3
          exact ⟨_, _, hs, by rw [HFIN.out]; rfl, by rw [HFIN.out]; exact (by (with_reducible repeat first | apply RowsA.alloc | apply RowsA.drewN | apply RowsA.drew); exact HP8.out), by rw [HFIN.out]; exact (by (with_reducible repeat first | apply ra_ | apply rn_ | apply rd_); exact HD.out), HNU.out, (by repeat first | (with_reducible first | exact HZ.out | apply ba_ | apply bn_ | apply bd_) | exact HZ.out)⟩
        | cons a rt =>
          have hlt := len_cons HX.out
          have d2 : decide (dn.length < xs.length) = true := decide_eq_true (by omega)
          have hpl : (dn.length : Int) < xs.length := by omega
          have HSX := am_ (snoc HX.out)
          obtain ⟨ad, e0, hx0, hx1⟩ := at_T49 (R_C HT7.out) (dn.length : Int) (by omega) hpl
          rw [rd_T49_at HX.out rfl] at hx0 hx1
          simp only [Int.toNat_natCast] at hx0 hx1
          cases e0
          have q0 : (0 : Int) ≤ (dn.length : Int) := by omega
          have tn : (dn.length : Int).toNat = dn.length := Int.toNat_natCast _
          have hml : ((dn.map (fun a => a.f1)).length + 1) * 8 ≤ 140737488355328 := by rw [List.length_map]; omega
          go_upto_region 22 with (fail)
          clear hx0 hx1
          have N8 := am_ (RowsA.alloc HP8.out (.cells #[.int .i64 a.f0, .int .i64 a.f1] 49))
          have N15 := am_ (Kd.R_alloc HO15.out (.cells #[.int .i64 a.f0, .int .i64 a.f1] 49))
          have N7 := am_ (Kd.R_alloc HT7.out (.cells #[.int .i64 a.f0, .int .i64 a.f1] 49))
          have NB := am_ (ba_ HBW.out (.cells #[.int .i64 a.f0, .int .i64 a.f1] 49))
          have BK := am_ (blk_new wr (.cells #[.int .i64 a.f0, .int .i64 a.f1] 49 (0, 0)))
          clear HP8 HO15 HT7 HBW
          generalize wr.alloc (.cells #[.int .i64 a.f0, .int .i64 a.f1] 49) = W1 at N8 N15 N7 NB BK ⊢
          generalize wr.heap.size = G at BK ⊢
          have HP8 := N8
          have HO15 := N15
          have HT7 := N7
          have HBW := NB
          clear N8 N15 N7 NB
          have yk1 := (blk_cell BK.out 1).trans rfl
          go_wp2_with (((with_reducible refine gate_builtin (b := .append) (xs := #[.tmp 85, .tmp 88]) rfl ?_); at_builtin; refine Kd.R_append (Kd.int .i64) (w0 := W0) W0.heap.size rfl (.tmp 85) (.tmp 88) 51 3 (.int .i64 0) 8 rfl Try.underlying51 infoI rfl (by decide) (by omega) u15 (dn.map (fun a => a.f1)) a.f1 [.int .i64 a.f1] (fun _ => True) (fun _ => False) rfl rfl ?aP (fun _ hk => hk.elim) ?aF ?aO ?aB ?aS ?aL ?_; (case aP => exact rfl); (case aB => exact (by repeat first | (with_reducible first | exact HBW.out | apply ba_ | apply bn_ | apply bd_) | exact HBW.out)); (case aF => exact (fun _ _ => trivial)); (case aO => exact (by (with_reducible repeat first | apply ra_ | apply rn_ | apply rd_); exact HO15.out)); (case aS => exact (below_size (by repeat first | (with_reducible first | exact HBW.out | apply ba_ | apply bn_ | apply bd_) | exact HBW.out))); (case aL => omega); intro v1 w1 ho hb hg hat); have n7 := am_ (RowsA.grown HP8.out hg (R_types HO15.out HP8.out.row (by decide)) (fun i a hi k hk e => absurd (MB.out i a hi k hk) (Nat.not_lt.mpr (Kd.R_base HO15.out k e.symm)))); have n10 := am_ (R_grownTy HT7.out HO15.out (by decide) hg); clear HP8 HT7 HBW HO15; have HP8 := n7; have HT7 := n10; have HO15 := am_ ho; have HBW := am_ hb; clear n7 n10 ho hb hg hat yk1 BK)
          go_roundw
          case rel => exact ⟨dn ++ [a], rt, by rw [len_snoc], HSX, ⟨(by (with_reducible repeat first | apply RowsA.alloc | apply RowsA.drewN | apply RowsA.drew); exact HP8.out)⟩, ⟨by rw [List.map_append]; exact (by (with_reducible repeat first | apply ra_ | apply rn_ | apply rd_); exact HO15.out)⟩, ⟨(by (with_reducible repeat first | apply ra_ | apply rn_ | apply rd_); exact HT7.out)⟩, ⟨(by repeat first | (with_reducible first | exact HBW.out | apply ba_ | apply bn_ | apply bd_) | exact HBW.out)⟩⟩
          case measure => simp [intOf]; omega
end Go.Proofs.Ytbnhpkkkijjkkaa.O
