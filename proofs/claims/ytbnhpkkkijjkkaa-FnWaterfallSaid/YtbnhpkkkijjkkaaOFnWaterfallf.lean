/- Walks of our own, a part of those for the law FnWaterfall: each function's contract in plain Lean. No condition beyond the bounds that each contract names. -/
import Derived.Test.YtbnhpkkkijjkkaaPureFnWaterfall
import Derived.Shelf.Slices.Clone
import Derived.Shelf.Slices.Turned
import Derived.Sort.LotA
import Derived.Shelf.SlSortCmp.Insertion1
import Derived.Shelf.Slices.Reverse
import Derived.Shelf.Lays2
import Derived.Shelf.Lays
import Derived.Shelf.SlLaysF
import Derived.Test.YtbnhpkkkijjkkaaOFnWaterfalla
import Derived.Test.YtbnhpkkkijjkkaaOFnWaterfallb
import Derived.Test.YtbnhpkkkijjkkaaOFnWaterfallc
import Derived.Test.YtbnhpkkkijjkkaaOFnWaterfalld
import Derived.Test.YtbnhpkkkijjkkaaOFnWaterfalle
namespace Go.Proofs.Ytbnhpkkkijjkkaa.O
open Go.RowKit Go.Proofs.YtbnhpkkkijjkkaaW.PrintWords Go.Proofs.YtbnhpkkkijjkkaaW.PrintLast Go.Proofs.YtbnhpkkkijjkkaaW.PrintMore Go.Proofs.Ytbnhpkkkijjkkaa.PL18D Go.Proofs.Ytbnhpkkkijjkkaa.EvKit Go.Proofs.Ytbnhpkkkijjkkaa.Pure
set_option linter.unusedVariables false
set_option linter.unusedSimpArgs false
attribute [local go_sem] max2_int min2_int max_two min_two max_three min_three max_four min_four
set_option maxHeartbeats 16000000 in
set_option maxRecDepth 100000 in
theorem distI_c (A0 : Option Addr) (c0 : Nat) (xs : List S49) (cash : Int) (w : World) (hr0 : Kd.C k49 w A0 xs.length xs) (hc0 : xs.length ≤ c0) (hn : xs.length ≤ 1048576) :
    Calls Try.prog 34 #[.slice A0 xs.length c0, .int .i64 cash] w fun e w' => ∃ v, e = .returned (.tuple #[v, .int .i64 (distA ranksL xs cash).2.1, .bool (distA ranksL xs cash).2.2]) ∧ (Kd.int .i64).R 3 w' w.heap.size (fun _ => True) v (distA ranksL xs cash).1 ∧ Below w.heap.size w w' := by
  have HB := am_ (Below.refl w.heap.size w)
  have HR0 := am_ hr0
  have HC0 := am_ hc0
  obtain ⟨kv, hv⟩ := roundsOf (implValidT_ev xs hn)
  have hw := within_eq cash 0 1000000000
  obtain ⟨ku, hu⟩ := roundsOf ranksUp_ev
  have HU := am_ hu
  clear hr0 hc0 hu
  by_cases g : goodT xs = true
  · rw [g] at hv
    have HV := am_ hv
    by_cases hc : 0 ≤ cash ∧ cash ≤ 1000000000
    · rw [decide_eq_true hc] at hw
      have HW := am_ hw
      rw [distA_yes g hc]
      have HCB := am_ hc
      have HX0 := am_ (good_parts g).1
      have hn20 := (good_parts g).2
      clear hv hw g hc
      obtain ⟨FIN, hFIN⟩ : ∃ F, F = serveS xs ranksL (zerosN xs.length) cash := ⟨_, rfl⟩
      rw [← hFIN]
      have HFIN := am_ hFIN.symm
      clear hFIN
      go_enter Try.func34, Try.ntmps34
      go_wp2_with fail
      refine (impl_IsValidTranches.calls kv A0 c0 xs true _ (by repeat first | exact (Kd.C_below HR0.out HB.out) | with_reducible refine ca_ ?_ _ | with_reducible refine cn_ ?_ _ | with_reducible refine cd_ ?_) HC0.out HV.out).mono ?_
      rintro e w1 ⟨rfl, hb⟩
      replace HB := am_ (below_step (by repeat first | (with_reducible first | exact HB.out | apply ba_ | apply bn_ | apply bd_) | exact HB.out) hb); clear hb
      go_wp2_with fail
      refine (impl_within.calls cash 0 1000000000 true _ HW.out).mono ?_
      rintro e w2 ⟨rfl, ⟨q1, rfl⟩⟩
      go_wp2_with fail
      refine (impl_ranksUp.calls ku ranksL _ HU.out).mono ?_
      rintro e w3 ⟨vr, rfl, ho, hb⟩
      have HO7 := am_ (Kd.R_lower ho (show w.heap.size ≤ _ from below_size (by repeat first | (with_reducible first | exact HB.out | apply ba_ | apply bn_ | apply bd_) | exact HB.out)))
      replace HB := am_ (below_step (by repeat first | (with_reducible first | exact HB.out | apply ba_ | apply bn_ | apply bd_) | exact HB.out) hb); clear hb
      clear ho
      obtain ⟨gr, cr, er, hgr, _, _⟩ := Kd.R_form HO7.out (by decide)
      obtain rfl : vr = .slice (some ⟨gr, 0, none⟩) 10 cr := er
      go_wp2_with fail
      refine calls_of_args (args' := #[.slice A0 xs.length c0, .int .i64 cash, .slice (some ⟨gr, 0, none⟩) ranksL.length cr]) rfl ?_
      refine (served_c A0 c0 gr cr xs ranksL cash _ (by repeat first | exact (Kd.C_below HR0.out HB.out) | with_reducible refine ca_ ?_ _ | with_reducible refine cn_ ?_ _ | with_reducible refine cd_ ?_) HC0.out HX0.out hn20 HCB.out (by repeat first | exact (R_C HO7.out) | with_reducible refine ca_ ?_ _ | with_reducible refine cn_ ?_ _ | with_reducible refine cd_ ?_) (R_cap HO7.out) (by decide)).mono ?_
      rw [serveI_eq HX0.out ranksL cash (by decide) HCB.out, HFIN.out]
      rintro e w5 ⟨v5_, rfl, ho, hb⟩
      have HO9 := am_ (Kd.R_lower ho (show w.heap.size ≤ _ from below_size (by repeat first | (with_reducible first | exact HB.out | apply ba_ | apply bn_ | apply bd_) | exact HB.out)))
      have n_ := am_ (below_step (by repeat first | (with_reducible first | exact HB.out | apply ba_ | apply bn_ | apply bd_) | exact HB.out) hb)
      clear HB ho hb
      have HB := n_
      clear n_
      go_wp2
      go_ret3
      exact ⟨_, rfl, (by (with_reducible repeat first | apply ra_ | apply rn_ | apply rd_); exact HO9.out), (by repeat first | (with_reducible first | exact HB.out | apply ba_ | apply bn_ | apply bd_) | exact HB.out)⟩
    · rw [decide_eq_false hc] at hw
      have HW := am_ hw
      rw [distA_no (fun q => hc q.2)]
      clear hv hw g hc
      go_enter Try.func34, Try.ntmps34
      go_wp2_with fail
      refine (impl_IsValidTranches.calls kv A0 c0 xs true _ (by repeat first | exact (Kd.C_below HR0.out HB.out) | with_reducible refine ca_ ?_ _ | with_reducible refine cn_ ?_ _ | with_reducible refine cd_ ?_) HC0.out HV.out).mono ?_
      rintro e w1 ⟨rfl, hb⟩
      replace HB := am_ (below_step (by repeat first | (with_reducible first | exact HB.out | apply ba_ | apply bn_ | apply bd_) | exact HB.out) hb); clear hb
      go_wp2_with fail
      refine (impl_within.calls cash 0 1000000000 false _ HW.out).mono ?_
      rintro e w2 ⟨rfl, ⟨q1, rfl⟩⟩
      go_wp2
      go_ret3
      exact ⟨_, rfl, Kd.R_nil _ _ _ _ _, (by repeat first | (with_reducible first | exact HB.out | apply ba_ | apply bn_ | apply bd_) | exact HB.out)⟩
  · rw [show goodT xs = false from by simpa using g] at hv
    have HV := am_ hv
    rw [distA_no (fun q => g q.1)]
    clear hv hw g
    go_enter Try.func34, Try.ntmps34
    go_wp2_with fail
    refine (impl_IsValidTranches.calls kv A0 c0 xs false _ (by repeat first | exact (Kd.C_below HR0.out HB.out) | with_reducible refine ca_ ?_ _ | with_reducible refine cn_ ?_ _ | with_reducible refine cd_ ?_) HC0.out HV.out).mono ?_
    rintro e w1 ⟨rfl, hb⟩
    replace HB := am_ (below_step (by repeat first | (with_reducible first | exact HB.out | apply ba_ | apply bn_ | apply bd_) | exact HB.out) hb); clear hb
    go_wp2
    go_ret3
    exact ⟨_, rfl, Kd.R_nil _ _ _ _ _, (by repeat first | (with_reducible first | exact HB.out | apply ba_ | apply bn_ | apply bd_) | exact HB.out)⟩
end Go.Proofs.Ytbnhpkkkijjkkaa.O
