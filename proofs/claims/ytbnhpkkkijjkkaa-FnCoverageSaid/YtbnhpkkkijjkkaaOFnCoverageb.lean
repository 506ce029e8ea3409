/- Walks of our own, a part of those for the law FnCoverage: each function's contract in plain Lean. No condition beyond the bounds that each contract names. -/
import Derived.Test.YtbnhpkkkijjkkaaPureFnCoverage
import Derived.Shelf.SlicesQ.IndexFunc
import Derived.Shelf.SlLaysH0
import Derived.Test.YtbnhpkkkijjkkaaOFnCoveragea
namespace Go.Proofs.Ytbnhpkkkijjkkaa.O
open Go.RowKit Go.Proofs.YtbnhpkkkijjkkaaW.PrintWords Go.Proofs.YtbnhpkkkijjkkaaW.PrintLast Go.Proofs.YtbnhpkkkijjkkaaW.PrintMore Go.Proofs.Ytbnhpkkkijjkkaa.PL18C Go.Proofs.Ytbnhpkkkijjkkaa.EvKit Go.Proofs.Ytbnhpkkkijjkkaa.Pure
set_option linter.unusedVariables false
set_option linter.unusedSimpArgs false
attribute [local go_sem] max2_int min2_int max_two min_two max_three min_three max_four min_four
set_option maxHeartbeats 8000000 in
set_option maxRecDepth 100000 in
theorem turI_c (A0 : Option Addr) (c0 : Nat) (xs : List S49) (cash n d : Int) (w : World) (hr0 : Kd.C k49 w A0 xs.length xs) (hc0 : xs.length ≤ c0) (ha0 : 0 < xs.length → ∃ b, A0 = some ⟨b, 0, none⟩) (hn : xs.length ≤ 1048576) :
    Calls Try.prog 29 #[.slice A0 xs.length c0, .int .i64 cash, .agg #[.int .i64 n, .int .i64 d]] w fun e w' => e = .returned (.tuple #[.int .i64 (turA xs cash n d).1, .bool (turA xs cash n d).2]) ∧ Below w.heap.size w w' := by
  obtain ⟨kv, hv⟩ := roundsOf (implValidT_ev xs hn)
  obtain ⟨kf, hf⟩ := roundsOf (implIsF_ev n d)
  obtain ⟨ku, hu⟩ := roundsOf ranksUp_ev
  have HU := am_ hu
  have HR0 := am_ hr0
  have HC0 := am_ hc0
  have HA0 := am_ ha0
  have HBX := am_ (below_alloc (Below.refl w.heap.size w) (.cells #[.int .i64 n, .int .i64 d] 35 (0, 0)))
  have HBK := am_ (blk_new w (.cells #[.int .i64 n, .int .i64 d] 35 (0, 0)))
  have hw := within_eq cash 0 1000000000
  clear hr0 hc0 ha0 hu
  by_cases g : goodT xs = true
  · rw [g] at hv
    have HV := am_ hv
    by_cases hc : 0 ≤ cash ∧ cash ≤ 1000000000
    · rw [decide_eq_true hc] at hw
      have HW := am_ hw
      by_cases hF : okF n d
      · rw [decide_eq_true hF] at hf
        have HF := am_ hf
        have hfin : turA xs cash n d = turF xs cash n d ranksL := by unfold turA; rw [if_pos ⟨g, hc, hF⟩]
        rw [hfin]
        obtain ⟨FIN, hFIN⟩ : ∃ F, F = turF xs cash n d ranksL := ⟨_, rfl⟩
        rw [← hFIN]
        have HFIN := am_ hFIN
        have HG := am_ g
        have HC := am_ hc
        clear hv hf hw hFIN hfin g hF hc
        go_enter Try.func29, Try.ntmps29
        go_wp2_with fail
        refine (impl_IsValidTranches.calls kv _ _ xs true _ (by repeat first | exact (Kd.C_below HR0.out HBX.out) | with_reducible refine ca_ ?_ _ | with_reducible refine cn_ ?_ _ | with_reducible refine cd_ ?_) HC0.out HV.out).mono ?_
        rintro e w1 ⟨rfl, hb⟩
        replace HBK := am_ (blk_below (blk_below HBK.out (by repeat first | exact Below.refl _ _ | apply ba_ | apply bn_ | apply bd_)) hb); replace HBX := am_ (below_step (by repeat first | (with_reducible first | exact HBX.out | apply ba_ | apply bn_ | apply bd_) | exact HBX.out) hb); clear hb
        go_wp2_with fail
        refine (impl_within.calls cash 0 1000000000 true _ HW.out).mono ?_
        rintro e w2 ⟨rfl, ⟨q1, rfl⟩⟩
        have y0 : w1.cell? ⟨w.heap.size, 0, none⟩ = some (.int .i64 n) := (blk_cell HBK.out 0).trans rfl
        have y1 : w1.cell? ⟨w.heap.size, 1, none⟩ = some (.int .i64 d) := (blk_cell HBK.out 1).trans rfl
        go_wp2_with fail
        clear y0 y1
        refine (impl_isFraction.calls kf n d true _ HF.out).mono ?_
        rintro e w3 ⟨rfl, hb⟩
        replace HBK := am_ (blk_below (blk_below HBK.out (by repeat first | exact Below.refl _ _ | apply ba_ | apply bn_ | apply bd_)) hb); replace HBX := am_ (below_step (by repeat first | (with_reducible first | exact HBX.out | apply ba_ | apply bn_ | apply bd_) | exact HBX.out) hb); clear hb
        go_wp2_with fail
        refine (impl_ranksUp.calls ku ranksL _ HU.out).mono ?_
        rintro e w4 ⟨v27, rfl, ho, hb⟩
        have HO := am_ (Kd.R_lower ho (show w.heap.size ≤ _ from below_size (by repeat first | (with_reducible first | exact HBX.out | apply ba_ | apply bn_ | apply bd_) | exact HBX.out)))
        replace HBK := am_ (blk_below (blk_below HBK.out (by repeat first | exact Below.refl _ _ | apply ba_ | apply bn_ | apply bd_)) hb); replace HBX := am_ (below_step (by repeat first | (with_reducible first | exact HBX.out | apply ba_ | apply bn_ | apply bd_) | exact HBX.out) hb); clear hb
        clear ho
        obtain ⟨gr, cap, hv27, hg1, hg2, cells, hg3⟩ := Kd.R_form HO.out (by decide)
        obtain rfl : v27 = .slice (some ⟨gr, 0, none⟩) 10 cap := hv27
        clear hg3 cells hg2
        go_wp2_with fail
        go_loopw [29] (fun v29 wr => ∃ (pre rest : List Int), Aside0 (ranksL = pre ++ rest) ∧ v29 = .int .i64 pre.length ∧ Aside0 (turF xs cash n d rest = FIN) ∧ Aside0 ((Kd.int .i64).R 3 wr w.heap.size (fun _ => True) (.slice (some ⟨gr, 0, none⟩) 10 cap) ranksL) ∧ Aside0 (wr.heap[w.heap.size]? = some (.cells #[.int .i64 n, .int .i64 d] 35 (0, 0))) ∧ Aside0 (Below w.heap.size w wr)) (fun v29 _ => 10 - (intOf v29).toNat)
        case atStart => exact ⟨[], ranksL, ⟨rfl⟩, rfl, ⟨HFIN.out.symm⟩, HO, HBK, HBX⟩
        case round =>
          clear HO HBK HBX
          obtain ⟨pre, rest, HX, rfl, HT, HO, HBK, HBX⟩ := hrel
          cases rest with
          | nil =>
            have hl10 : ¬ pre.length < 10 := by have h := len_nil HX.out; have : ranksL.length = 10 := rfl; omega
            have c : decide (pre.length < 10) = false := decide_eq_false hl10
            have c2 : decide ((pre.length : Int) < 10) = false := decide_eq_false (by omega)
            go_wp2
            go_ret2
            rw [← HT.out]
            exact ⟨rfl, HBX.out⟩
          | cons r t =>
            have hlen : ranksL.length = 10 := rfl
            have hl := len_cons HX.out
            have hpl : (pre.length : Int) < 10 := by omega
            have yr : wr.cell? ⟨gr, pre.length, none⟩ = some (.int .i64 r) := by
              have h := (Kd.R_celln 0 HO.out (pre.length : Int) (by omega) hpl).1
              rw [Int.toNat_natCast] at h
              rw [h]
              have e := rd_at HX.out (i := (pre.length : Int)) rfl
              exact congrArg (fun z => some (Value.int .i64 z)) e
            have c : decide (pre.length < 10) = true := decide_eq_true (by omega)
            have c2 : decide ((pre.length : Int) < 10) = true := decide_eq_true (by omega)
            clear hl hlen
            obtain ⟨kc, hkc⟩ := roundsOf (implCov_ev xs HG.out cash r HC.out)
            obtain ⟨km, hkm⟩ := roundsOf (implCmp_ev (covI xs cash r).1 (covI xs cash r).2.1 n d)
            have hturn : turF xs cash n d (r :: t) = if xs.any (hasR r) = true ∧ (covI xs cash r).2.2 = true ∧ (cmpA (covI xs cash r).1 (covI xs cash r).2.1 n d).1 < 0 then (r, true) else turF xs cash n d t := rfl
            have HCT := am_ (fun W (hr : Kd.C k49 W A0 xs.length xs) (hB : wr.heap.size < W.heap.size) hc => containsT_c A0 c0 xs r wr.heap.size W hr HA0.out hB hc)
            generalize xs.any (hasR r) = b1 at hturn HCT
            generalize covI xs cash r = cv at hkc hkm hturn
            obtain ⟨f1, f2, b2⟩ := cv
            dsimp only at hkm hturn
            generalize cmpA f1 f2 n d = cm at hkm hturn
            obtain ⟨o1, o2⟩ := cm
            dsimp only at hturn
            rw [HT.out] at hturn
            have HCV := am_ hkc
            have HCM := am_ hkm
            have HTU := am_ hturn
            clear hkc hkm hturn
            have HBA := am_ (blk_new wr (.cells #[.int .i64 r] 3 (0, 0)))
            go_wp2_with fail
            refine (HCT.out _ (by repeat first | exact (Kd.C_below HR0.out HBX.out) | with_reducible refine ca_ ?_ _ | with_reducible refine cn_ ?_ _ | with_reducible refine cd_ ?_) (by simp) (by simp)).mono ?_
            rintro e w5 ⟨rfl, hb⟩
            replace HO := am_ (Kd.R_below (by (with_reducible repeat first | apply ra_ | apply rn_ | apply rd_); exact HO.out) hb); replace HBK := am_ (blk_below (blk_below HBK.out (by repeat first | exact Below.refl _ _ | apply ba_ | apply bn_ | apply bd_)) hb); replace HBA := am_ (blk_below (blk_below HBA.out (by repeat first | exact Below.refl _ _ | apply ba_ | apply bn_ | apply bd_)) hb); replace HBX := am_ (below_step (by repeat first | (with_reducible first | exact HBX.out | apply ba_ | apply bn_ | apply bd_) | exact HBX.out) hb); clear hb
            cases b1 with
            | false =>
              have hgo := HTU.out
              rw [if_neg (fun q => Bool.false_ne_true q.1)] at hgo
              have HGO := am_ hgo
              clear hgo
              go_wp2
              go_roundw
              case rel => exact ⟨pre ++ [r], t, ⟨snoc HX.out⟩, by rw [len_snoc], ⟨HGO.out.symm⟩, ⟨(by (with_reducible repeat first | apply ra_ | apply rn_ | apply rd_); exact HO.out)⟩, HBK, ⟨(by repeat first | (with_reducible first | exact HBX.out | apply ba_ | apply bn_ | apply bd_) | exact HBX.out)⟩⟩
              case measure => simp [intOf]; omega
            | true =>
              have ya : w5.cell? ⟨wr.heap.size, 0, none⟩ = some (.int .i64 r) := (blk_cell HBA.out 0).trans rfl
              go_wp2_with fail
              clear ya
              refine (impl_coverageOf.calls kc _ _ xs cash r f1 f2 b2 _ (by repeat first | exact (Kd.C_below HR0.out HBX.out) | with_reducible refine ca_ ?_ _ | with_reducible refine cn_ ?_ _ | with_reducible refine cd_ ?_) HC0.out HCV.out).mono ?_
              rintro e w6 ⟨rfl, hb⟩
              replace HO := am_ (Kd.R_below (by (with_reducible repeat first | apply ra_ | apply rn_ | apply rd_); exact HO.out) hb); replace HBK := am_ (blk_below (blk_below HBK.out (by repeat first | exact Below.refl _ _ | apply ba_ | apply bn_ | apply bd_)) hb); replace HBA := am_ (blk_below (blk_below HBA.out (by repeat first | exact Below.refl _ _ | apply ba_ | apply bn_ | apply bd_)) hb); replace HBX := am_ (below_step (by repeat first | (with_reducible first | exact HBX.out | apply ba_ | apply bn_ | apply bd_) | exact HBX.out) hb); clear hb
              cases b2 with
              | false =>
                have hgo := HTU.out
                rw [if_neg (fun q => Bool.false_ne_true q.2.1)] at hgo
                have HGO := am_ hgo
                clear hgo
                go_wp2
                go_roundw
                case rel => exact ⟨pre ++ [r], t, ⟨snoc HX.out⟩, by rw [len_snoc], ⟨HGO.out.symm⟩, ⟨(by (with_reducible repeat first | apply ra_ | apply rn_ | apply rd_); exact HO.out)⟩, ⟨blk_alloc HBK.out _⟩, ⟨(by repeat first | (with_reducible first | exact HBX.out | apply ba_ | apply bn_ | apply bd_) | exact HBX.out)⟩⟩
                case measure => simp [intOf]; omega
              | true =>
                have y0 : w6.cell? ⟨w.heap.size, 0, none⟩ = some (.int .i64 n) := (blk_cell HBK.out 0).trans rfl
                have y1 : w6.cell? ⟨w.heap.size, 1, none⟩ = some (.int .i64 d) := (blk_cell HBK.out 1).trans rfl
                have lw : w.heap.size < w6.heap.size := blk_lt HBK.out
                have z0 : ∀ O, (w6.alloc O).cell? ⟨w.heap.size, 0, none⟩ = some (.int .i64 n) := fun O => ((below_alloc (Below.refl w6.heap.size w6) O).cell (p := ⟨w.heap.size, 0, none⟩) lw).trans y0
                have z1 : ∀ O, (w6.alloc O).cell? ⟨w.heap.size, 1, none⟩ = some (.int .i64 d) := fun O => ((below_alloc (Below.refl w6.heap.size w6) O).cell (p := ⟨w.heap.size, 1, none⟩) lw).trans y1
                go_wp2_with fail
                clear z0 z1 y0 y1 lw
                refine (impl_CompareFractions.calls km f1 f2 n d o1 o2 _ HCM.out).mono ?_
                rintro e w7 ⟨rfl, hb⟩
                replace HO := am_ (Kd.R_below (by (with_reducible repeat first | apply ra_ | apply rn_ | apply rd_); exact HO.out) hb); replace HBK := am_ (blk_below (blk_below HBK.out (by repeat first | exact Below.refl _ _ | apply ba_ | apply bn_ | apply bd_)) hb); replace HBA := am_ (blk_below (blk_below HBA.out (by repeat first | exact Below.refl _ _ | apply ba_ | apply bn_ | apply bd_)) hb); replace HBX := am_ (below_step (by repeat first | (with_reducible first | exact HBX.out | apply ba_ | apply bn_ | apply bd_) | exact HBX.out) hb); clear hb
                by_cases ho1 : o1 < 0
                · have cc : decide (o1 < 0) = true := decide_eq_true ho1
                  have hgo := HTU.out
                  rw [if_pos ⟨by trivial, by trivial, ho1⟩] at hgo
                  have HGO := am_ hgo
                  have ya : w7.cell? ⟨wr.heap.size, 0, none⟩ = some (.int .i64 r) := (blk_cell HBA.out 0).trans rfl
                  clear hgo ho1
                  go_wp2
                  go_ret2
                  rw [HGO.out]
                  exact ⟨rfl, (by repeat first | (with_reducible first | exact HBX.out | apply ba_ | apply bn_ | apply bd_) | exact HBX.out)⟩
                · have cc : decide (o1 < 0) = false := decide_eq_false ho1
                  have hgo := HTU.out
                  rw [if_neg (fun q => ho1 q.2.2)] at hgo
                  have HGO := am_ hgo
                  clear hgo ho1
                  go_wp2
                  go_roundw
                  case rel => exact ⟨pre ++ [r], t, ⟨snoc HX.out⟩, by rw [len_snoc], ⟨HGO.out.symm⟩, ⟨(by (with_reducible repeat first | apply ra_ | apply rn_ | apply rd_); exact HO.out)⟩, HBK, ⟨(by repeat first | (with_reducible first | exact HBX.out | apply ba_ | apply bn_ | apply bd_) | exact HBX.out)⟩⟩
                  case measure => simp [intOf]; omega
      · rw [decide_eq_false hF] at hf
        have HF := am_ hf
        have HFN := am_ (show turA xs cash n d = (0, false) from by unfold turA; rw [if_neg (fun q => hF q.2.2)])
        clear hv hf hw g hF hc
        go_enter Try.func29, Try.ntmps29
        go_wp2_with fail
        refine (impl_IsValidTranches.calls kv _ _ xs true _ (by repeat first | exact (Kd.C_below HR0.out HBX.out) | with_reducible refine ca_ ?_ _ | with_reducible refine cn_ ?_ _ | with_reducible refine cd_ ?_) HC0.out HV.out).mono ?_
        rintro e w1 ⟨rfl, hb⟩
        replace HBK := am_ (blk_below (blk_below HBK.out (by repeat first | exact Below.refl _ _ | apply ba_ | apply bn_ | apply bd_)) hb); replace HBX := am_ (below_step (by repeat first | (with_reducible first | exact HBX.out | apply ba_ | apply bn_ | apply bd_) | exact HBX.out) hb); clear hb
        go_wp2_with fail
        refine (impl_within.calls cash 0 1000000000 true _ HW.out).mono ?_
        rintro e w2 ⟨rfl, ⟨q1, rfl⟩⟩
        have y0 : w1.cell? ⟨w.heap.size, 0, none⟩ = some (.int .i64 n) := (blk_cell HBK.out 0).trans rfl
        have y1 : w1.cell? ⟨w.heap.size, 1, none⟩ = some (.int .i64 d) := (blk_cell HBK.out 1).trans rfl
        go_wp2_with fail
        clear y0 y1
        refine (impl_isFraction.calls kf n d false _ HF.out).mono ?_
        rintro e w3 ⟨rfl, hb⟩
        replace HBK := am_ (blk_below (blk_below HBK.out (by repeat first | exact Below.refl _ _ | apply ba_ | apply bn_ | apply bd_)) hb); replace HBX := am_ (below_step (by repeat first | (with_reducible first | exact HBX.out | apply ba_ | apply bn_ | apply bd_) | exact HBX.out) hb); clear hb
        go_wp2
        go_ret2
        rw [HFN.out]
        exact ⟨rfl, (by repeat first | (with_reducible first | exact HBX.out | apply ba_ | apply bn_ | apply bd_) | exact HBX.out)⟩
    · rw [decide_eq_false hc] at hw
      have HW := am_ hw
      have HFN := am_ (show turA xs cash n d = (0, false) from by unfold turA; rw [if_neg (fun q => hc q.2.1)])
      clear hv hf hw g hc
      go_enter Try.func29, Try.ntmps29
      go_wp2_with fail
      refine (impl_IsValidTranches.calls kv _ _ xs true _ (by repeat first | exact (Kd.C_below HR0.out HBX.out) | with_reducible refine ca_ ?_ _ | with_reducible refine cn_ ?_ _ | with_reducible refine cd_ ?_) HC0.out HV.out).mono ?_
      rintro e w1 ⟨rfl, hb⟩
      replace HBK := am_ (blk_below (blk_below HBK.out (by repeat first | exact Below.refl _ _ | apply ba_ | apply bn_ | apply bd_)) hb); replace HBX := am_ (below_step (by repeat first | (with_reducible first | exact HBX.out | apply ba_ | apply bn_ | apply bd_) | exact HBX.out) hb); clear hb
      go_wp2_with fail
      refine (impl_within.calls cash 0 1000000000 false _ HW.out).mono ?_
      rintro e w2 ⟨rfl, ⟨q1, rfl⟩⟩
      go_wp2
      go_ret2
      rw [HFN.out]
      exact ⟨rfl, (by repeat first | (with_reducible first | exact HBX.out | apply ba_ | apply bn_ | apply bd_) | exact HBX.out)⟩
  · have g' : goodT xs = false := by simpa using g
    rw [g'] at hv
    have HV := am_ hv
    have HFN := am_ (show turA xs cash n d = (0, false) from by unfold turA; rw [if_neg (fun q => g q.1)])
    clear hv hf hw g g'
    go_enter Try.func29, Try.ntmps29
    go_wp2_with fail
    refine (impl_IsValidTranches.calls kv _ _ xs false _ (by repeat first | exact (Kd.C_below HR0.out HBX.out) | with_reducible refine ca_ ?_ _ | with_reducible refine cn_ ?_ _ | with_reducible refine cd_ ?_) HC0.out HV.out).mono ?_
    rintro e w1 ⟨rfl, hb⟩
    replace HBK := am_ (blk_below (blk_below HBK.out (by repeat first | exact Below.refl _ _ | apply ba_ | apply bn_ | apply bd_)) hb); replace HBX := am_ (below_step (by repeat first | (with_reducible first | exact HBX.out | apply ba_ | apply bn_ | apply bd_) | exact HBX.out) hb); clear hb
    go_wp2
    go_ret2
    rw [HFN.out]
    exact ⟨rfl, (by repeat first | (with_reducible first | exact HBX.out | apply ba_ | apply bn_ | apply bd_) | exact HBX.out)⟩
theorem own_ne {α : Type} {k : Kd α} {e base : Nat} {w : World} {ok : Nat → Prop} {v : Value} {xs : List α} (h : k.R e w base ok v xs) {g t : Nat} {cs : Array Value} (hb : w.heap[g]? = some (.cells cs t (0, 0))) (ht : e ≠ t) : some g ≠ v.ownBlock := by
  intro he
  obtain ⟨inner, ho⟩ := Kd.R_own h
  obtain ⟨cells, hc⟩ := own_typed ho g he.symm
  rw [hb] at hc
  injection hc with h1
  injection h1 with _ h2
  exact ht h2.symm
/-- The cursor of the draws, in its box at g: the code that it reads came in, its place is at most B. -/
def Cur (w0 w : World) (g : Nat) (code : List Int) (B : Int) : Prop :=
  w0.heap.size ≤ g ∧ (∀ x ∈ code, 0 ≤ x ∧ x ≤ 255) ∧ ∃ (A : Option Addr) (c : Nat) (p s : Int), w.heap[g]? = some (.cells #[.slice A code.length c, .int .i64 p, .int .u64 s] 85 (0, 0)) ∧ (Kd.int .u8).C w0 A code.length code ∧ 0 ≤ p ∧ p ≤ B
theorem Cur.blk {w0 w : World} {g : Nat} {code : List Int} {B : Int} (h : Cur w0 w g code B) : ∃ cs, w.heap[g]? = some (.cells cs 85 (0, 0)) := by
  obtain ⟨_, _, A, c, p, s, h1, _⟩ := h
  exact ⟨_, h1⟩
theorem Cur.ge {w0 w : World} {g : Nat} {code : List Int} {B : Int} (h : Cur w0 w g code B) : w0.heap.size ≤ g := h.1
theorem Cur.lt {w0 w : World} {g : Nat} {code : List Int} {B : Int} (h : Cur w0 w g code B) : g < w.heap.size := by
  obtain ⟨cs, h1⟩ := h.blk
  exact blk_lt h1
theorem Cur.step {w0 w w1 : World} {g : Nat} {code : List Int} {B B' : Int} (h : Cur w0 w g code B) (hg : w1.heap[g]? = w.heap[g]?) (hb : B ≤ B') : Cur w0 w1 g code B' := by
  obtain ⟨h0, h1, A, c, p, s, h2, h3, h4, h5⟩ := h
  exact ⟨h0, h1, A, c, p, s, by rw [hg]; exact h2, h3, h4, by omega⟩
theorem Cur.below {w0 w w1 : World} {g : Nat} {code : List Int} {B : Int} (h : Cur w0 w g code B) (hb : Below w.heap.size w w1) : Cur w0 w1 g code B := by
  obtain ⟨h0, h1, A, c, p, s, h2, h3⟩ := h
  exact ⟨h0, h1, A, c, p, s, blk_below h2 hb, h3⟩
theorem Cur.drew {w0 w : World} {g : Nat} {code : List Int} {B : Int} (h : Cur w0 w g code B) : Cur w0 w.drew g code B := h
theorem Cur.drewN {w0 w : World} {g : Nat} {code : List Int} {B : Int} (h : Cur w0 w g code B) (n : Nat) : Cur w0 (w.drewN n) g code B := h
theorem Cur.alloc {w0 w : World} {g : Nat} {code : List Int} {B : Int} (h : Cur w0 w g code B) (o : Obj) : Cur w0 (w.alloc o) g code B := h.below (below_alloc (Below.refl _ _) o)
theorem Cur.new {w0 w : World} {A : Option Addr} {c : Nat} {code : List Int} (hb : Below w0.heap.size w0 w) (hc : (Kd.int .u8).C w0 A code.length code) (hx : ∀ x ∈ code, 0 ≤ x ∧ x ≤ 255) : Cur w0 (w.alloc (.cells #[.slice A code.length c, .int .i64 0, .int .u64 0] 85 (0, 0))) w.heap.size code 0 := ⟨below_size hb, hx, A, c, 0, 0, blk_new w _, hc, by decide, by decide⟩
/-- A row of one's own keeps what it holds while the cursor goes on. -/
theorem R_draw {α : Type} {d : Kd α} {e base : Nat} {w0 w w1 : World} {v : Value} {xs : List α} {g : Nat} {code : List Int} {B : Int} {ok : Nat → Prop} (hf : ∀ (w : World) (b : Nat) (p q : Nat → Prop) x cs, d.M w b p x cs → d.M w b q x cs) (h : d.R e w base ok v xs) (hI : Cur w0 w g code B) (ht : e ≠ 85) (hk : KeepBut w w1 g none) : d.R e w1 base (fun _ => True) v xs := by
  obtain ⟨cs, hb⟩ := hI.blk
  have h1 : d.R e w base (fun k => k ≠ g) v xs := R_flat hf h (fun k hk he => own_ne h hb ht (by rw [hk, he]))
  exact Kd.R_mono (Kd.R_keep h1 hk (fun _ h => h)) (fun _ _ => trivial)
theorem R_ne {α : Type} {d : Kd α} {e base : Nat} {w0 w : World} {A : Option Addr} {n c : Nat} {xs : List α} {g : Nat} {code : List Int} {B : Int} {ok : Nat → Prop} (h : d.R e w base ok (.slice A n c) xs) (hI : Cur w0 w g code B) (ht : e ≠ 85) : ∀ ad, A = some ad → 0 < n → ad.block ≠ g := by
  intro ad he hn hg
  obtain ⟨cs, hb⟩ := hI.blk
  subst he
  obtain ⟨e1, _, _⟩ := Kd.R_reads' h
  obtain ⟨b, cap, e2, _⟩ := Kd.R_form h (by omega)
  injection e2 with e2
  injection e2 with e2
  subst e2
  obtain ⟨cells, hc⟩ := R_block h hn
  rw [show b = g from hg, hb] at hc
  injection hc with h1
  injection h1 with _ h2
  exact ht h2.symm
theorem seed_bd (x : Int) : 0 ≤ Go.bits .and .u64 (IntKind.u64.wrap x / 1099511627776) 255 ∧ Go.bits .and .u64 (IntKind.u64.wrap x / 1099511627776) 255 ≤ 255 := by
  have hw : ∀ n : Int, 0 ≤ n → n < 2 ^ 64 → IntKind.u64.wrap n = n := fun n h1 h2 => by
    have e : IntKind.u64.wrap n = n % 18446744073709551616 := by simp [IntKind.wrap, IntKind.bits, IntKind.signed]
    rw [e]; omega
  have e : IntKind.u64.wrap x = x % 18446744073709551616 := by simp [IntKind.wrap, IntKind.bits, IntKind.signed]
  rw [e]
  obtain ⟨y, hy⟩ : ∃ y, y = x % 18446744073709551616 / 1099511627776 := ⟨_, rfl⟩
  have hb : 0 ≤ y ∧ y < 2 ^ 64 := by omega
  rw [← hy]
  have h := Go.bits_mask .u64 64 (by decide) hw 8 (by decide) y hb.1 hb.2
  have h2 : Go.bits .and .u64 y 255 = y % 256 := h
  rw [h2]; omega
theorem wrap_small (v : Int) (h : 0 ≤ v ∧ v ≤ 255) : IntKind.i64.wrap v = v := IntWalk.i64_in _ (by omega)
set_option maxHeartbeats 8000000 in
set_option maxRecDepth 100000 in
theorem next_c (g : Nat) (code : List Int) (B : Int) (w0 w : World) (hI : Cur w0 w g code B) (hB : Below w0.heap.size w0 w) (hb : B ≤ 1000000000000) :
    Calls Try.prog 96 #[.pointer (some ⟨g, 0, none⟩)] w fun e w' => ∃ v, e = .returned (.int .i64 v) ∧ (0 ≤ v ∧ v ≤ 255) ∧ Cur w0 w' g code (B + 1) ∧ Below w0.heap.size w0 w' ∧ KeepBut w w' g none := by
  obtain ⟨hge, hx, A, c, p, s, hg, hc, hp0, hp1⟩ := hI
  have BKg := am_ hg
  have GEg := am_ hge
  have HX := am_ hx
  have HC := am_ hc
  have HB := am_ hB
  have HK := am_ (KeepBut.refl w g none)
  have hbd : p ≤ 1000000000000 := by omega
  have HP := am_ (show p + 1 ≤ B + 1 from by omega)
  clear hg hge hx hc hB hp1
  by_cases cl : p < code.length
  · have c1 : decide (p < (code.length : Int)) = true := decide_eq_true cl
    have c2 : decide (p + 1 ≤ (code.length : Int)) = true := decide_eq_true (by omega)
    obtain ⟨ad, e1, hcx⟩ := Kd.at_int HC.out p hp0 cl
    cases e1
    replace hcx := HB.out.cell (World.block_lt_of_cell? w0 _ hcx) |>.trans hcx
    obtain ⟨x, hxe⟩ : ∃ x, x = rd code p := ⟨_, rfl⟩
    have hxb : 0 ≤ x ∧ x ≤ 255 := by
      rw [hxe, rd, List.getD_eq_getElem?_getD, List.getElem?_eq_getElem (by omega)]
      exact HX.out _ (List.getElem_mem _)
    rw [← hxe] at hcx
    have hwx := wrap_small x hxb
    have HXB := am_ hxb
    have p1 : (0 ≤ p) = True := eq_true hp0
    have p2 : (p < (code.length : Int)) = True := eq_true cl
    clear hxe hxb
    have yg_0 : w.cell? ⟨g, 0, none⟩ = some (.slice (some ad) code.length c) := (blk_cell BKg.out 0).trans rfl; have fg_0 := blk_frozen BKg.out 0; have yg_1 : w.cell? ⟨g, 1, none⟩ = some (.int .i64 p) := (blk_cell BKg.out 1).trans rfl; have fg_1 := blk_frozen BKg.out 1; have yg_2 : w.cell? ⟨g, 2, none⟩ = some (.int .u64 s) := (blk_cell BKg.out 2).trans rfl; have fg_2 := blk_frozen BKg.out 2
    go_enter Try.func96, Try.ntmps96
    go_wp2
    repeat (go_quiet (fail); try go_wp2)
    go_ret
    exact ⟨x, rfl, HXB.out, ⟨GEg.out, HX.out, some ad, c, p + 1, _, (by (with_reducible repeat first | refine kn_ ?_ _ | refine kd_ ?_ | refine ka_ ?_ _); refine blk_put (cs := #[.slice (some ad) code.length c, .int .i64 (p + 1), .int .u64 s]) ?_ 2 _ rfl; (with_reducible repeat first | refine kn_ ?_ _ | refine kd_ ?_ | refine ka_ ?_ _); refine blk_put (cs := #[.slice (some ad) code.length c, .int .i64 p, .int .u64 s]) ?_ 1 _ rfl; (with_reducible repeat first | refine kn_ ?_ _ | refine kd_ ?_ | refine ka_ ?_ _); exact BKg.out), HC.out, by omega, HP.out⟩, (by repeat first | (with_reducible first | exact HB.out | apply ba_ | apply bn_ | apply bd_ | refine below_set ?_ GEg.out) | exact HB.out), by repeat (first | (with_reducible first | exact HK.out | apply KeepBut.set_ | apply keep_drewN | apply keep_drew | apply keep_alloc) | exact HK.out)⟩
  · have c1 : decide (p < (code.length : Int)) = false := decide_eq_false cl
    have c2 : decide (p + 1 ≤ (code.length : Int)) = false := decide_eq_false (by omega)
    have yg_0 : w.cell? ⟨g, 0, none⟩ = some (.slice A code.length c) := (blk_cell BKg.out 0).trans rfl; have fg_0 := blk_frozen BKg.out 0; have yg_1 : w.cell? ⟨g, 1, none⟩ = some (.int .i64 p) := (blk_cell BKg.out 1).trans rfl; have fg_1 := blk_frozen BKg.out 1; have yg_2 : w.cell? ⟨g, 2, none⟩ = some (.int .u64 s) := (blk_cell BKg.out 2).trans rfl; have fg_2 := blk_frozen BKg.out 2
    go_enter Try.func96, Try.ntmps96
    go_wp2
    repeat (go_quiet (fail); try go_wp2)
    go_ret
    refine ⟨_, rfl, ?_, ⟨GEg.out, HX.out, A, c, p + 1, _, (by (with_reducible repeat first | refine kn_ ?_ _ | refine kd_ ?_ | refine ka_ ?_ _); refine blk_put (cs := #[.slice A code.length c, .int .i64 (p + 1), .int .u64 s]) ?_ 2 _ rfl; (with_reducible repeat first | refine kn_ ?_ _ | refine kd_ ?_ | refine ka_ ?_ _); refine blk_put (cs := #[.slice A code.length c, .int .i64 p, .int .u64 s]) ?_ 1 _ rfl; (with_reducible repeat first | refine kn_ ?_ _ | refine kd_ ?_ | refine ka_ ?_ _); exact BKg.out), HC.out, by omega, HP.out⟩, (by repeat first | (with_reducible first | exact HB.out | apply ba_ | apply bn_ | apply bd_ | refine below_set ?_ GEg.out) | exact HB.out), by repeat (first | (with_reducible first | exact HK.out | apply KeepBut.set_ | apply keep_drewN | apply keep_drew | apply keep_alloc) | exact HK.out)⟩
    have h := seed_bd (IntKind.u64.wrap (IntKind.u64.wrap (s * 6364136223846793005)) + 902902)
    rw [wrapId (by omega)]
    exact h
/-- A row of numbers, as it lies. -/
def numsA (ls : List Int) : Array Value := (ls.map (fun x => Value.int .i64 x)).toArray
theorem C_blk {w : World} {b : Nat} {ls : List Int} (h : w.heap[b]? = some (.cells (numsA ls) 3 (0, 0))) {j : Nat} (hj : j < ls.length) : w.cell? ⟨b, j, none⟩ = some (.int .i64 (ls.getD j 0)) := by
  refine (blk_cell h j).trans ?_
  rw [numsA, List.getElem?_toArray, List.getElem?_map, List.getD_eq_getElem?_getD, List.getElem?_eq_getElem hj]
  rfl
theorem blk_ne {w : World} {b g t t' : Nat} {cs cs' : Array Value} (h : w.heap[b]? = some (.cells cs t (0, 0))) (h' : w.heap[g]? = some (.cells cs' t' (0, 0))) (ht : t ≠ t') : b ≠ g := by
  rintro rfl
  rw [h] at h'
  injection h' with h'
  injection h' with _ h'
  exact ht h'
/-- What a draw leaves: the cursor, what lay before, and all but the cursor's block. -/
def Dr (w0 w w' : World) (g : Nat) (code : List Int) (B : Int) : Prop := Cur w0 w' g code B ∧ Below w0.heap.size w0 w' ∧ KeepBut w w' g none
theorem Dr.refl {w0 w : World} {g : Nat} {code : List Int} {B B' : Int} (h : Cur w0 w g code B) (hb : Below w0.heap.size w0 w) (hB : B ≤ B') : Dr w0 w w g code B' := ⟨h.step rfl hB, hb, KeepBut.refl w g none⟩
theorem Dr.trans {w0 w w1 w2 : World} {g : Nat} {code : List Int} {B B' : Int} (h : Dr w0 w w1 g code B) (k : Dr w0 w1 w2 g code B') : Dr w0 w w2 g code B' := ⟨k.1, k.2.1, h.2.2.trans k.2.2 (.inl rfl)⟩
theorem Dr.more {w0 w w1 : World} {g : Nat} {code : List Int} {B B' : Int} (h : Dr w0 w w1 g code B) (hB : B ≤ B') : Dr w0 w w1 g code B' := ⟨h.1.step rfl hB, h.2⟩
set_option maxHeartbeats 8000000 in
set_option maxRecDepth 100000 in
theorem pick_c (n : Int) (hn : n ≤ 200) (g : Nat) (code : List Int) (B : Int) (w0 w : World) (hI : Cur w0 w g code B) (hB : Below w0.heap.size w0 w) (hb : B ≤ 900000000000) :
    Calls Try.prog 79 #[.pointer (some ⟨g, 0, none⟩), .int .i64 n] w fun e w' => ∃ v, e = .returned (.int .i64 v) ∧ (0 ≤ v ∧ (1 ≤ n → v < n)) ∧ Dr w0 w w' g code (B + 1) := by
  by_cases h1 : n ≤ 1
  · have HD := am_ (Dr.refl hI hB (show B ≤ B + 1 by omega))
    have c1 : decide (n ≤ 1) = true := decide_eq_true h1
    clear hI hB
    go_enter Try.func79, Try.ntmps79
    go_wp2
    go_ret
    exact ⟨0, rfl, ⟨by omega, by omega⟩, HD.out⟩
  · have c1 : decide (n ≤ 1) = false := decide_eq_false h1
    have c2 : decide (200 < n) = false := decide_eq_false (by omega)
    have HN := am_ (next_c g code B w0 w hI hB (by omega))
    have hnz : ¬ n = 0 := by omega
    clear hI hB
    go_enter Try.func79, Try.ntmps79
    go_wp2_with fail
    refine HN.out.mono ?_
    rintro e w1 ⟨x, rfl, hx, hc, hb1, hk⟩
    have HD := am_ (show Dr w0 w w1 g code (B + 1) from ⟨hc, hb1, hk⟩)
    have hme : x.tmod n = x % n := Int.tmod_eq_emod_of_nonneg hx.1
    have hm : 0 ≤ x % n ∧ x % n < n := ⟨Int.emod_nonneg _ hnz, Int.emod_lt_of_pos _ (by omega)⟩
    have HM := am_ hm
    have hw : wrap64 (x % n) = x % n := wrapId (by omega)
    have x0 := hx.1
    clear hc hb1 hk hm
    go_wp2
    go_ret
    exact ⟨_, rfl, ⟨HM.out.1, fun _ => HM.out.2⟩, HD.out⟩
set_option maxHeartbeats 8000000 in
set_option maxRecDepth 100000 in
theorem among_c (ls : List Int) (b n cap : Nat) (hn : 1 ≤ n ∧ n ≤ ls.length ∧ n ≤ 200) (g : Nat) (code : List Int) (B : Int) (w0 w : World) (hI : Cur w0 w g code B) (hB : Below w0.heap.size w0 w) (hb : B ≤ 900000000000) (hl : w.heap[b]? = some (.cells (numsA ls) 3 (0, 0))) :
    Calls Try.prog 75 #[.pointer (some ⟨g, 0, none⟩), .slice (some ⟨b, 0, none⟩) n cap] w fun e w' => ∃ v, e = .returned (.int .i64 v) ∧ v ∈ ls ∧ Dr w0 w w' g code (B + 1) := by
  obtain ⟨cs, hcs⟩ := hI.blk
  have hne := blk_ne hl hcs (by decide)
  have HP := am_ (pick_c (n : Int) (by omega) g code B w0 w hI hB hb)
  have HL := am_ hl
  have n1 := hn.1
  have n2 := hn.2.1
  clear hcs hI hB hl hn
  go_enter Try.func75, Try.ntmps75
  go_wp2_with fail
  refine HP.out.mono ?_
  rintro e w1 ⟨v, rfl, ⟨v0, v1⟩, hd⟩
  have HD := am_ hd
  have v2 := v1 (by omega)
  obtain ⟨k, rfl⟩ : ∃ k : Nat, v = k := ⟨v.toNat, by omega⟩
  have hkn : k < ls.length := by omega
  have hy : w1.cell? ⟨b, k, none⟩ = some (.int .i64 (ls.getD k 0)) := C_blk (hd.2.2.blk HL.out hne (by simp)) hkn
  obtain ⟨x, hx⟩ : ∃ x, x = ls.getD k 0 := ⟨_, rfl⟩
  have HX := am_ (show x ∈ ls from by rw [hx, List.getD_eq_getElem?_getD, List.getElem?_eq_getElem hkn]; exact List.getElem_mem hkn)
  rw [← hx] at hy
  have tk : (k : Int).toNat = k := Int.toNat_natCast k
  clear hd hx v1 hkn
  go_wp2
  go_ret
  exact ⟨x, rfl, HX.out, HD.out⟩
theorem Dr.cur {w0 w w1 : World} {g : Nat} {code : List Int} {B : Int} (h : Dr w0 w w1 g code B) : Cur w0 w1 g code B := h.1
theorem Dr.below {w0 w w1 : World} {g : Nat} {code : List Int} {B : Int} (h : Dr w0 w w1 g code B) : Below w0.heap.size w0 w1 := h.2.1
theorem Dr.drew {w0 w w1 : World} {g : Nat} {code : List Int} {B : Int} (h : Dr w0 w w1 g code B) : Dr w0 w w1.drew g code B := ⟨h.1, below_drew1 h.2.1, keep_drew h.2.2⟩
theorem Dr.drewN {w0 w w1 : World} {g : Nat} {code : List Int} {B : Int} (h : Dr w0 w w1 g code B) (n : Nat) : Dr w0 w (w1.drewN n) g code B := ⟨h.1, pw_below_drewN h.2.1 n, keep_drewN h.2.2 n⟩
theorem Dr.alloc {w0 w w1 : World} {g : Nat} {code : List Int} {B : Int} (h : Dr w0 w w1 g code B) (o : Obj) : Dr w0 w (w1.alloc o) g code B := ⟨h.1.alloc o, below_alloc h.2.1 o, keep_alloc h.2.2 o⟩
/-- A row's block is none that lay in w. -/
def Late (w : World) (v : Value) : Prop := ∀ k, v.ownBlock = some k → w.heap.size ≤ k
theorem Late.lit {w w1 : World} {v : Value} (hs : w.heap.size ≤ w1.heap.size) (hn : ∃ b, v.ownBlock = some b ∧ w1.heap.size ≤ b) : Late w v := by
  obtain ⟨b, e, hb⟩ := hn
  intro k hk
  rw [e] at hk
  injection hk with hk
  omega
theorem Late.app {w w1 : World} {v v1 : Value} (h : Late w v) (hs : w.heap.size ≤ w1.heap.size) (hat : v1.ownBlock = v.ownBlock ∨ ∃ b, v1.ownBlock = some b ∧ w1.heap.size ≤ b) : Late w v1 := by
  rcases hat with e | hn
  · intro k hk; exact h k (e ▸ hk)
  · exact Late.lit hs hn
theorem Dr.grown {w0 w w1 w2 : World} {g : Nat} {code : List Int} {B : Int} {v : Value} (h : Dr w0 w w1 g code B) (hg : w1.grownBy w2 v.ownBlock) (hl : Late w v) (hb : Below w0.heap.size w0 w2) (hne : some g ≠ v.ownBlock) : Dr w0 w w2 g code B :=
  ⟨h.1.step (hg.block g h.1.lt hne) (Int.le_refl _), hb, ⟨Nat.le_trans h.2.2.1 hg.size, fun i hi hgi hr => (hg.block i (Nat.lt_of_lt_of_le hi h.2.2.1) (fun e => by have := hl i e.symm; omega)).trans (h.2.2.2 i hi hgi hr)⟩⟩
theorem Dr.lit {w0 w w1 w2 : World} {g : Nat} {code : List Int} {B : Int} (h : Dr w0 w w1 g code B) (hg : w1.grownBy w2 none) (hb : Below w0.heap.size w0 w2) : Dr w0 w w2 g code B :=
  ⟨h.1.step (hg.block g h.1.lt (by simp)) (Int.le_refl _), hb, ⟨Nat.le_trans h.2.2.1 hg.size, fun i hi hgi hr => (hg.block i (Nat.lt_of_lt_of_le hi h.2.2.1) (by simp)).trans (h.2.2.2 i hi hgi hr)⟩⟩
theorem Dr.size {w0 w w1 : World} {g : Nat} {code : List Int} {B : Int} (h : Dr w0 w w1 g code B) : w.heap.size ≤ w1.heap.size := h.2.2.1
/-- A row of one's own behind a draw. -/
theorem R_dr {α : Type} {d : Kd α} {e base : Nat} {w0 w w1 : World} {v : Value} {xs : List α} {g : Nat} {code : List Int} {B B' : Int} (hf : ∀ (w : World) (b : Nat) (p q : Nat → Prop) x cs, d.M w b p x cs → d.M w b q x cs) (h : d.R e w base (fun _ => True) v xs) (hI : Cur w0 w g code B) (ht : e ≠ 85) (hd : Dr w0 w w1 g code B') : d.R e w1 base (fun _ => True) v xs := R_draw hf h hI ht hd.2.2
theorem own_cur {α : Type} {d : Kd α} {e base : Nat} {ok : Nat → Prop} {w0 w : World} {v : Value} {xs : List α} {g : Nat} {code : List Int} {B : Int} (h : d.R e w base ok v xs) (hI : Cur w0 w g code B) (ht : e ≠ 85) : some g ≠ v.ownBlock := by
  obtain ⟨cs, hb⟩ := hI.blk
  exact own_ne h hb ht
def lenOf : Value → Nat
  | .slice _ n _ => n
  | _ => 0
theorem flat_Tranche (w : World) (b : Nat) (p q : Nat → Prop) (x : S49) (cs : List Value) (h : k49.M w b p x cs) : k49.M w b q x cs := by
  obtain rfl := k49_openM h
  exact k49_mkM w b q x

theorem infoT : (Try.prog.info? 49).map (fun i => (i.zero, i.size, i.bytes)) = some (some (.agg #[(.int .i64 0), (.int .i64 0)]), 2, 16) := by kernel_rfl
set_option maxHeartbeats 16000000 in
set_option maxRecDepth 100000 in
theorem tranches_c (g : Nat) (code : List Int) (B : Int) (w wa : World) (hI : Cur w wa g code B) (hB : Below w.heap.size w wa) (hb : B ≤ 800000000000) :
    Calls Try.prog 71 #[.pointer (some ⟨g, 0, none⟩)] wa fun e w' => ∃ v xs, e = .returned v ∧ Kd.R k49 49 w' w.heap.size (fun _ => True) v xs ∧ xs.length ≤ 100 ∧ Dr w wa w' g code (B + 1000) := by
  have HD := am_ (Dr.refl hI hB (Int.le_refl B))
  have HB := am_ hB
  clear hI hB
  go_enter Try.func71, Try.ntmps71
  go_wp2_with (((with_reducible refine gate_dst (N := 5) rfl ?_); refine Kd.R_lit k49 w.heap.size 49 (w0 := w) ?hg (N := 5) ?hd (xs := []) (inner := []) (ok := fun _ => True) (okp := fun _ => True) ?hr ?hp (fun _ hk => hk) trivial (by repeat first | (with_reducible first | exact HB.out | apply ba_ | apply bn_ | apply bd_) | exact HB.out) (below_size (by repeat first | (with_reducible first | exact HB.out | apply ba_ | apply bn_ | apply bd_) | exact HB.out)) (by simp) ?_; (case hd => rfl); (case hg => rfl); (case hr => first | (go_simp; done) | (go_simp; rfl)); (case hp => exact (Reps.none _ _)); intro v1 w1 ho hb hgr hnw); have HO := am_ ho; have HL := am_ (Late.lit HD.out.size hnw); have n_ := am_ (HD.out.lit hgr hb); clear HB HD; have HD := n_; have HB := am_ hb; clear n_ ho hb hgr hnw)
  refine (pick_c 7 (by decide) g code _ w _ HD.out.cur HB.out (by omega)).mono ?_
  rintro e w2_ ⟨n, rfl, ⟨n0, n1⟩, hd⟩
  have n_HO := am_ (R_dr flat_Tranche HO.out HD.out.cur (by decide) hd)
  have k_ := am_ (HD.out.trans hd)
  clear HD HB hd HO
  have HO := n_HO
  clear n_HO
  have HD := k_
  clear k_
  have HB := am_ HD.out.below
  have n7 := n1 (by decide)
  clear n1
  go_wp2_with fail
  go_loopw [3, 4] (fun v3 v4 wr => ∃ (n : Int) (out : List S49), v4 = .int .i64 n ∧ Aside0 (0 ≤ n ∧ n ≤ 7) ∧ Aside0 ((out.length : Int) + n ≤ 7) ∧ Aside0 (Kd.R k49 49 wr w.heap.size (fun _ => True) v3 out) ∧ Aside0 (Late wa v3) ∧ Aside0 (Dr w wa wr g code (B + 20 - 2 * n))) (fun _ v4 _ => (intOf v4).toNat)
  case atStart => exact ⟨n, [], rfl, ⟨by omega⟩, ⟨by simp; omega⟩, ⟨(by (with_reducible repeat first | apply ra_ | apply rn_ | apply rd_); exact HO.out)⟩, HL, ⟨HD.out.more (by omega)⟩⟩
  case round =>
    clear HO HL HD HB n0 n7
    obtain ⟨n, out, rfl, HN, HLN, HO, HL, HD⟩ := hrel
    have HB := am_ HD.out.below
    have n0 := HN.out.1
    have n7 := HN.out.2
    have hol := HLN.out
    by_cases hn : 0 < n
    · have c1 : decide (0 < n) = true := decide_eq_true hn
      go_wp2_with fail
      refine (among_c [1, 1, 2, 2, 3, 10] _ 6 6 (by decide) g code _ w _ (HD.out.alloc _).cur (ba_ HB.out _) (by omega) (blk_new _ _)).mono ?_
      rintro e w2_ ⟨x1, rfl, hx1_, hd⟩
      clear hx1_
      have n_HO := am_ (R_dr flat_Tranche (Kd.R_alloc HO.out _) (HD.out.alloc _).cur (by decide) hd)
      have k_ := am_ ((HD.out.alloc _).trans hd)
      clear HD HB hd HO
      have HO := n_HO
      clear n_HO
      have HD := k_
      clear k_
      have HB := am_ HD.out.below
      go_wp2_with fail
      refine (among_c [0, 1, 3, 10, 50, 100, 99999, 2000001] _ 8 8 (by decide) g code _ w _ (HD.out.alloc _).cur (ba_ HB.out _) (by omega) (blk_new _ _)).mono ?_
      rintro e w2_ ⟨x2, rfl, hx2_, hd⟩
      clear hx2_
      have n_HO := am_ (R_dr flat_Tranche (Kd.R_alloc HO.out _) (HD.out.alloc _).cur (by decide) hd)
      have k_ := am_ ((HD.out.alloc _).trans hd)
      clear HD HB hd HO
      have HO := n_HO
      clear n_HO
      have HD := k_
      clear k_
      have HB := am_ HD.out.below
      go_wp2_with (((with_reducible refine gate_builtin (b := .append) (xs := #[.tmp 12, .tmp 20]) rfl ?_); at_builtin; refine Kd.R_append k49 (w0 := w) w.heap.size rfl (.tmp 12) (.tmp 20) 30 49 (.agg #[(.int .i64 0), (.int .i64 0)]) 16 rfl Try.underlying30 infoT rfl (by decide) (by omega) u3 out (⟨x1, x2⟩ : S49) [.int .i64 x1, .int .i64 x2] (fun _ => True) (fun _ => False) rfl rfl ?aP (fun _ hk => hk.elim) ?aF ?aO ?aB ?aS ?aL ?_; (case aP => exact k49_mkM _ _ _ _); (case aB => exact (by repeat first | (with_reducible first | exact HB.out | apply ba_ | apply bn_ | apply bd_) | exact HB.out)); (case aF => exact (fun _ _ => trivial)); (case aO => exact (by (with_reducible repeat first | apply ra_ | apply rn_ | apply rd_); exact HO.out)); (case aS => exact (below_size (by repeat first | (with_reducible first | exact HB.out | apply ba_ | apply bn_ | apply bd_) | exact HB.out))); (case aL => omega); intro v1 w1 ho hb hg hat); have n_ := am_ ho; have l_ := am_ (HL.out.app HD.out.size hat); have k_ := am_ (HD.out.grown hg HL.out hb (own_cur HO.out HD.out.cur (by decide))); clear HO HL HD HB; have HO := n_; have HL := l_; have HD := k_; have HB := am_ hb; clear n_ l_ k_ ho hb hg hat)
      go_roundw
      case rel => exact ⟨n - 1, out ++ [⟨x1, x2⟩], by go_num, ⟨by omega⟩, ⟨by rw [List.length_append, List.length_singleton]; push_cast; omega⟩, ⟨(by (with_reducible repeat first | apply ra_ | apply rn_ | apply rd_); exact HO.out)⟩, HL, ⟨HD.out.more (by omega)⟩⟩
      case measure => simp [intOf]; omega
    · have c1 : decide (0 < n) = false := decide_eq_false hn
      have HOL := am_ (show out.length ≤ 7 from by omega)
      go_wp2_with fail
      refine (pick_c 40 (by decide) g code _ w _ HD.out.cur HB.out (by omega)).mono ?_
      rintro e w2_ ⟨v, rfl, ⟨v0, v1⟩, hd⟩
      have n_HO := am_ (R_dr flat_Tranche HO.out HD.out.cur (by decide) hd)
      have k_ := am_ (HD.out.trans hd)
      clear HD HB hd HO
      have HO := n_HO
      clear n_HO
      have HD := k_
      clear k_
      have HB := am_ HD.out.below
      have v2 := v1 (by decide)
      clear v1
      have hol2 := HOL.out
      by_cases e0 : v = 0
      · subst e0
        go_wp2_with fail
        refine (among_c [0, 11, -1] _ 3 3 (by decide) g code _ w _ (HD.out.alloc _).cur (ba_ HB.out _) (by omega) (blk_new _ _)).mono ?_
        rintro e w2_ ⟨x1, rfl, hx1_, hd⟩
        clear hx1_
        have n_HO := am_ (R_dr flat_Tranche (Kd.R_alloc HO.out _) (HD.out.alloc _).cur (by decide) hd)
        have k_ := am_ ((HD.out.alloc _).trans hd)
        clear HD HB hd HO
        have HO := n_HO
        clear n_HO
        have HD := k_
        clear k_
        have HB := am_ HD.out.below
        go_wp2_with (((with_reducible refine gate_builtin (b := .append) (xs := #[.tmp 26, .tmp 31]) rfl ?_); at_builtin; refine Kd.R_append k49 (w0 := w) w.heap.size rfl (.tmp 26) (.tmp 31) 30 49 (.agg #[(.int .i64 0), (.int .i64 0)]) 16 rfl Try.underlying30 infoT rfl (by decide) (by omega) u3 out (⟨x1, 1⟩ : S49) [.int .i64 x1, .int .i64 1] (fun _ => True) (fun _ => False) rfl rfl ?aP (fun _ hk => hk.elim) ?aF ?aO ?aB ?aS ?aL ?_; (case aP => exact k49_mkM _ _ _ _); (case aB => exact (by repeat first | (with_reducible first | exact HB.out | apply ba_ | apply bn_ | apply bd_) | exact HB.out)); (case aF => exact (fun _ _ => trivial)); (case aO => exact (by (with_reducible repeat first | apply ra_ | apply rn_ | apply rd_); exact HO.out)); (case aS => exact (below_size (by repeat first | (with_reducible first | exact HB.out | apply ba_ | apply bn_ | apply bd_) | exact HB.out))); (case aL => omega); intro v1 w1 ho hb hg hat); have n_ := am_ ho; have l_ := am_ (HL.out.app HD.out.size hat); have k_ := am_ (HD.out.grown hg HL.out hb (own_cur HO.out HD.out.cur (by decide))); clear HO HL HD HB; have HO := n_; have HL := l_; have HD := k_; have HB := am_ hb; clear n_ l_ k_ ho hb hg hat)
        go_ret
        exact ⟨_, _, rfl, (by (with_reducible repeat first | apply ra_ | apply rn_ | apply rd_); exact HO.out), by simp; omega, HD.out.more (by omega)⟩
      · by_cases e1 : v = 1
        · subst e1
          go_wp2_with fail
          refine (among_c [-1, 1000000000, 1000000001] _ 3 3 (by decide) g code _ w _ (HD.out.alloc _).cur (ba_ HB.out _) (by omega) (blk_new _ _)).mono ?_
          rintro e w2_ ⟨x1, rfl, hx1_, hd⟩
          clear hx1_
          have n_HO := am_ (R_dr flat_Tranche (Kd.R_alloc HO.out _) (HD.out.alloc _).cur (by decide) hd)
          have k_ := am_ ((HD.out.alloc _).trans hd)
          clear HD HB hd HO
          have HO := n_HO
          clear n_HO
          have HD := k_
          clear k_
          have HB := am_ HD.out.below
          go_wp2_with (((with_reducible refine gate_builtin (b := .append) (xs := #[.tmp 35, .tmp 40]) rfl ?_); at_builtin; refine Kd.R_append k49 (w0 := w) w.heap.size rfl (.tmp 35) (.tmp 40) 30 49 (.agg #[(.int .i64 0), (.int .i64 0)]) 16 rfl Try.underlying30 infoT rfl (by decide) (by omega) u3 out (⟨1, x1⟩ : S49) [.int .i64 1, .int .i64 x1] (fun _ => True) (fun _ => False) rfl rfl ?aP (fun _ hk => hk.elim) ?aF ?aO ?aB ?aS ?aL ?_; (case aP => exact k49_mkM _ _ _ _); (case aB => exact (by repeat first | (with_reducible first | exact HB.out | apply ba_ | apply bn_ | apply bd_) | exact HB.out)); (case aF => exact (fun _ _ => trivial)); (case aO => exact (by (with_reducible repeat first | apply ra_ | apply rn_ | apply rd_); exact HO.out)); (case aS => exact (below_size (by repeat first | (with_reducible first | exact HB.out | apply ba_ | apply bn_ | apply bd_) | exact HB.out))); (case aL => omega); intro v1 w1 ho hb hg hat); have n_ := am_ ho; have l_ := am_ (HL.out.app HD.out.size hat); have k_ := am_ (HD.out.grown hg HL.out hb (own_cur HO.out HD.out.cur (by decide))); clear HO HL HD HB; have HO := n_; have HL := l_; have HD := k_; have HB := am_ hb; clear n_ l_ k_ ho hb hg hat)
          go_ret
          exact ⟨_, _, rfl, (by (with_reducible repeat first | apply ra_ | apply rn_ | apply rd_); exact HO.out), by simp; omega, HD.out.more (by omega)⟩
        · have q0 : (v == 0) = false := by simp [e0]
          have q1 : (v == 1) = false := by simp [e1]
          by_cases e2 : v = 2
          · subst e2
            clear q0 q1 e0 e1 HLN hol
            go_wp2_with fail
            go_loopw [3] (fun v3 wr => ∃ (out : List S49), Aside0 (out.length ≤ 21) ∧ Aside0 (Kd.R k49 49 wr w.heap.size (fun _ => True) v3 out) ∧ Aside0 (Late wa v3) ∧ Aside0 (Dr w wa wr g code (B + 50 + out.length))) (fun v3 _ => 22 - lenOf v3)
            case atStart => exact ⟨out, ⟨by omega⟩, ⟨(by (with_reducible repeat first | apply ra_ | apply rn_ | apply rd_); exact HO.out)⟩, HL, ⟨HD.out.more (by omega)⟩⟩
            case round =>
              clear HO HL HD HB hol2 HOL
              obtain ⟨out, HLN, HO, HL, HD⟩ := hrel
              have HB := am_ HD.out.below
              obtain ⟨A3, c3, e3⟩ := Kd.R_slice HO.out
              subst e3
              have hol := HLN.out
              go_wp2_with fail
              refine (pick_c 2 (by decide) g code _ w _ HD.out.cur HB.out (by omega)).mono ?_
              rintro e w2_ ⟨p, rfl, ⟨p0, p1⟩, hd⟩
              have n_HO := am_ (R_dr flat_Tranche HO.out HD.out.cur (by decide) hd)
              have k_ := am_ (HD.out.trans hd)
              clear HD HB hd HO
              have HO := n_HO
              clear n_HO
              have HD := k_
              clear k_
              have HB := am_ HD.out.below
              have p2 := p1 (by decide)
              clear p1
              by_cases hp : (out.length : Int) < 20 + p
              · have d1 : decide ((out.length : Int) < 20 + p) = true := decide_eq_true hp
                go_wp2_with (((with_reducible refine gate_builtin (b := .append) (xs := #[.tmp 50, .tmp 52]) rfl ?_); at_builtin; refine Kd.R_append k49 (w0 := w) w.heap.size rfl (.tmp 50) (.tmp 52) 30 49 (.agg #[(.int .i64 0), (.int .i64 0)]) 16 rfl Try.underlying30 infoT rfl (by decide) (by omega) (.slice A3 out.length c3) out (⟨4, 3⟩ : S49) [.int .i64 4, .int .i64 3] (fun _ => True) (fun _ => False) rfl rfl ?aP (fun _ hk => hk.elim) ?aF ?aO ?aB ?aS ?aL ?_; (case aP => exact k49_mkM _ _ _ _); (case aB => exact (by repeat first | (with_reducible first | exact HB.out | apply ba_ | apply bn_ | apply bd_) | exact HB.out)); (case aF => exact (fun _ _ => trivial)); (case aO => exact (by (with_reducible repeat first | apply ra_ | apply rn_ | apply rd_); exact HO.out)); (case aS => exact (below_size (by repeat first | (with_reducible first | exact HB.out | apply ba_ | apply bn_ | apply bd_) | exact HB.out))); (case aL => omega); intro v1 w1 ho hb hg hat); have n_ := am_ ho; have l_ := am_ (HL.out.app HD.out.size hat); have k_ := am_ (HD.out.grown hg HL.out hb (own_cur HO.out HD.out.cur (by decide))); clear HO HL HD HB; have HO := n_; have HL := l_; have HD := k_; have HB := am_ hb; clear n_ l_ k_ ho hb hg hat)
                obtain ⟨A4, c4, e4⟩ := Kd.R_slice HO.out
                go_roundw
                case rel => exact ⟨out ++ [⟨4, 3⟩], ⟨by simp; omega⟩, ⟨(by (with_reducible repeat first | apply ra_ | apply rn_ | apply rd_); exact HO.out)⟩, HL, ⟨HD.out.more (by simp; omega)⟩⟩
                case measure => rw [e4]; simp [lenOf]; omega
              · have d1 : decide ((out.length : Int) < 20 + p) = false := decide_eq_false hp
                go_wp2
                go_ret
                exact ⟨_, out, rfl, (by (with_reducible repeat first | apply ra_ | apply rn_ | apply rd_); exact HO.out), by omega, HD.out.more (by omega)⟩
          · have q2 : (v == 2) = false := by simp [e2]
            have z0 : decide (v = 0) = false := decide_eq_false e0
            have z1 : decide (v = 1) = false := decide_eq_false e1
            have z2 : decide (v = 2) = false := decide_eq_false e2
            go_wp2
            go_ret
            exact ⟨_, out, rfl, (by (with_reducible repeat first | apply ra_ | apply rn_ | apply rd_); exact HO.out), by omega, HD.out.more (by omega)⟩
theorem all_in (ls : List Int) (h : ls.all (fun x => decide (-1000000000000 ≤ x ∧ x ≤ 1000000000000)) = true) : ∀ x ∈ ls, -1000000000000 ≤ x ∧ x ≤ 1000000000000 := fun x hx => of_decide_eq_true (List.all_eq_true.mp h x hx)
set_option maxHeartbeats 16000000 in
set_option maxRecDepth 100000 in
theorem cash_c (g : Nat) (code : List Int) (B : Int) (w wa : World) (hI : Cur w wa g code B) (hB : Below w.heap.size w wa) (hb : B ≤ 800000000000) :
    Calls Try.prog 72 #[.pointer (some ⟨g, 0, none⟩)] wa fun e w' => ∃ x, e = .returned (.int .i64 x) ∧ (-1000000000000 ≤ x ∧ x ≤ 1000000000000) ∧ Dr w wa w' g code (B + 2) := by
  have HD := am_ (Dr.refl hI hB (Int.le_refl B))
  have HB := am_ hB
  have hgl := hI.lt
  clear hI hB
  go_enter Try.func72, Try.ntmps72
  go_wp2_with fail
  refine (pick_c 40 (by decide) g code _ w _ (HD.out.alloc _).cur (ba_ HB.out _) (by omega)).mono ?_
  rintro e w2 ⟨v, rfl, ⟨v0, v1⟩, hd⟩
  have HBK := am_ (hd.2.2.blk (g' := wa.heap.size) (o := .cells (numsA [0, 1, 5, 13, 60, 111, 100000, 3000000, 1000000000, -1, 1000000001]) 3 (0, 0)) (blk_new wa _) (Nat.ne_of_gt hgl) (by simp))
  have v2 := v1 (by decide)
  clear v1 hgl
  have k_ := am_ ((HD.out.alloc _).trans hd)
  clear HD HB hd
  have HD := k_
  clear k_
  have HB := am_ HD.out.below
  generalize wa.heap.size = b at HBK ⊢
  by_cases c0 : v < 20
  · have q1 : v.tdiv 20 = 0 := by rw [Int.tdiv_eq_ediv_of_nonneg v0]; omega
    have q2 : v / 20 = 0 := by omega
    go_wp2_with fail
    refine (among_c [0, 1, 5, 13, 60, 111, 100000, 3000000, 1000000000, -1, 1000000001] b 9 11 (by decide) g code _ w _ HD.out.cur HB.out (by omega) HBK.out).mono ?_
    rintro e w3 ⟨x, rfl, hx, hd⟩
    have HX := am_ (all_in [0, 1, 5, 13, 60, 111, 100000, 3000000, 1000000000, -1, 1000000001] (by decide) x hx)
    have k_ := am_ (HD.out.trans hd)
    clear hx hd HD HB
    have HD := k_
    clear k_
    have HB := am_ HD.out.below
    go_wp2
    go_ret
    exact ⟨x, rfl, HX.out, HD.out.more (by omega)⟩
  · have q1 : v.tdiv 20 = 1 := by rw [Int.tdiv_eq_ediv_of_nonneg v0]; omega
    have q2 : v / 20 = 1 := by omega
    go_wp2_with fail
    refine (among_c [0, 1, 5, 13, 60, 111, 100000, 3000000, 1000000000, -1, 1000000001] b 10 11 (by decide) g code _ w _ HD.out.cur HB.out (by omega) HBK.out).mono ?_
    rintro e w3 ⟨x, rfl, hx, hd⟩
    have HX := am_ (all_in [0, 1, 5, 13, 60, 111, 100000, 3000000, 1000000000, -1, 1000000001] (by decide) x hx)
    have k_ := am_ (HD.out.trans hd)
    clear hx hd HD HB
    have HD := k_
    clear k_
    have HB := am_ HD.out.below
    go_wp2
    go_ret
    exact ⟨x, rfl, HX.out, HD.out.more (by omega)⟩
set_option maxHeartbeats 16000000 in
set_option maxRecDepth 100000 in
theorem drawDist_c (A : Option Addr) (c : Nat) (code : List Int) (w : World) (hr : (Kd.int .u8).C w A code.length code) (hx : ∀ x ∈ code, 0 ≤ x ∧ x ≤ 255) :
    Calls Try.prog 41 #[.slice A code.length c] w fun e w' => ∃ v xs cash, e = .returned (.tuple #[v, .int .i64 cash]) ∧ Kd.R k49 49 w' w.heap.size (fun _ => True) v xs ∧ xs.length ≤ 100 ∧ (-1000000000000 ≤ cash ∧ cash ≤ 1000000000000) ∧ Below w.heap.size w w' := by
  have HC := am_ (fun hb => Cur.new (w0 := w) (w := w) (c := c) hb hr hx)
  clear hr hx
  go_enter Try.func41, Try.ntmps41
  go_wp2_with fail
  refine (tranches_c w.heap.size code 0 w _ (HC.out (Below.refl _ _)) (ba_ (Below.refl _ _) _) (by omega)).mono ?_
  rintro e w2 ⟨v, xs, rfl, ho, hl, hd⟩
  have HO := am_ ho
  have HL := am_ hl
  have HD := am_ hd
  clear ho hl hd
  go_wp2_with fail
  refine (cash_c w.heap.size code _ w _ HD.out.cur HD.out.below (by omega)).mono ?_
  rintro e w3 ⟨x, rfl, hx, hd⟩
  have HX := am_ hx
  have n_ := am_ (R_dr flat_Tranche HO.out HD.out.cur (by decide) hd)
  have HB := am_ hd.below
  clear hx hd HO HD
  go_wp2
  go_ret2
  exact ⟨v, xs, x, rfl, (by (with_reducible repeat first | apply ra_ | apply rn_ | apply rd_); exact n_.out), HL.out, HX.out, (by repeat first | (with_reducible first | exact HB.out | apply ba_ | apply bn_ | apply bd_) | exact HB.out)⟩
theorem Dr.set {w0 w w1 : World} {g : Nat} {code : List Int} {B : Int} (h : Dr w0 w w1 g code B) {q : Nat} (hq : w.heap.size ≤ q) (hb : w0.heap.size ≤ w.heap.size) (hg : g ≠ q) (j : Nat) (v : Value) : Dr w0 w (w1.setCell ⟨q, j, none⟩ v) g code B :=
  ⟨h.1.step (Below.heap_setCell w1 ⟨q, j, none⟩ v g hg) (Int.le_refl _), below_set h.2.1 (Nat.le_trans hb hq), keep_far h.2.2 hq v⟩
theorem Dr.bel {w0 w w1 w2 : World} {g : Nat} {code : List Int} {B : Int} (h : Dr w0 w w1 g code B) (hb : Below w1.heap.size w1 w2) : Dr w0 w w2 g code B :=
  ⟨h.1.below hb, below_step h.2.1 hb, h.2.2.trans (KeepBut.of_below hb g none) (.inl rfl)⟩
set_option maxHeartbeats 16000000 in
set_option maxRecDepth 100000 in
theorem one_c (n : Int) (hn : 1 ≤ n ∧ n ≤ 200) (g : Nat) (code : List Int) (B : Int) (w wa : World) (hI : Cur w wa g code B) (hB : Below w.heap.size w wa) (hb : B ≤ 800000000000) :
    Calls Try.prog 73 #[.pointer (some ⟨g, 0, none⟩), .int .i64 n] wa fun e w' => ∃ x : Bool, e = .returned (.bool x) ∧ Dr w wa w' g code (B + 1) := by
  have HD := am_ (Dr.refl hI hB (Int.le_refl B))
  have HB := am_ hB
  clear hI hB
  go_enter Try.func73, Try.ntmps73
  go_wp2_with fail
  refine (pick_c n hn.2 g code _ w _ HD.out.cur HB.out (by omega)).mono ?_
  rintro e w2 ⟨v, rfl, _, hd⟩
  have k_ := am_ (Dr.trans (by repeat first | exact HD.out | apply Dr.alloc | apply Dr.drewN | apply Dr.drew) hd)
  clear hd HD HB
  have HD := k_
  clear k_
  have HB := am_ HD.out.below
  by_cases hv : v = 0
  · have q1 : (v == 0) = true := by simp [hv]
    have q2 : decide (v = 0) = true := decide_eq_true hv
    clear hv
    go_wp2
    go_ret
    exact ⟨true, rfl, HD.out.more (by omega)⟩
  · have q1 : (v == 0) = false := by simp [hv]
    have q2 : decide (v = 0) = false := decide_eq_false hv
    clear hv
    go_wp2
    go_ret
    exact ⟨false, rfl, HD.out.more (by omega)⟩
set_option maxHeartbeats 16000000 in
set_option maxRecDepth 100000 in
theorem fraction_c (g : Nat) (code : List Int) (B : Int) (w wa : World) (hI : Cur w wa g code B) (hB : Below w.heap.size w wa) (hb : B ≤ 850000000000) :
    Calls Try.prog 92 #[.pointer (some ⟨g, 0, none⟩)] wa fun e w' => ∃ n d, e = .returned (.agg #[.int .i64 n, .int .i64 d]) ∧ Dr w wa w' g code (B + 2) := by
  have HD := am_ (Dr.refl hI hB (Int.le_refl B))
  have HB := am_ hB
  have HB0 := am_ hB
  have hgl := hI.lt
  clear hI hB
  go_enter Try.func92, Try.ntmps92
  go_wp2_with fail
  refine (pick_c 19 (by decide) g code _ w _ (HD.out.alloc _).cur (ba_ HB.out _) (by omega)).mono ?_
  rintro e w2 ⟨v, rfl, ⟨v0, v1⟩, hd⟩
  have v2 := v1 (by decide)
  clear v1
  have BKg1 := am_ (hd.2.2.blk (g' := wa.heap.size) (o := .cells #[.int .i64 0, .int .i64 0] 35 (0, 0)) (blk_new wa _) (Nat.ne_of_gt hgl) (by simp))
  have k_ := am_ ((HD.out.alloc _).trans hd)
  clear HD HB hd
  have HD := k_
  clear k_
  have HB := am_ HD.out.below
  obtain ⟨g1, hbE⟩ : ∃ b, b = wa.heap.size := ⟨_, rfl⟩
  have GAg1 := am_ (show wa.heap.size ≤ g1 from by omega)
  have NGg1 := am_ (show g ≠ g1 from by omega)
  rw [← hbE] at BKg1 ⊢
  clear hbE hgl
  go_wp2_with fail
  refine (pick_c 12 (by decide) g code _ w _ HD.out.cur HB.out (by omega)).mono ?_
  rintro e w3 ⟨u, rfl, ⟨u0, u1⟩, hd⟩
  have u2 := u1 (by decide)
  clear u1
  have m_g1 := am_ (hd.2.2.blk (g' := g1) (o := .cells #[.int .i64 0, .int .i64 0] 35 (0, 0)) (by repeat first | exact BKg1.out | refine ka_ ?_ _ | refine kn_ ?_ _ | refine kd_ ?_) NGg1.out.symm (by simp))
  have k_ := am_ (Dr.trans HD.out hd)
  clear hd HD HB BKg1
  have HD := k_
  clear k_
  have HB := am_ HD.out.below
  have BKg1 := m_g1
  clear m_g1
  obtain ⟨kR, hR⟩ := roundsOf (specReduce_ev (v - 6) (1 + u) (by omega) (by omega) (by omega))
  obtain ⟨FA, hFA⟩ : ∃ F, F = fracA (v - 6) (1 + u) := ⟨_, rfl⟩
  rw [← hFA] at hR
  clear hFA
  obtain ⟨rn, rd, ro⟩ := FA
  have HR := am_ hR
  clear hR
  go_wp2_with fail
  refine (spec_l2Reduce.calls kR (v - 6) (1 + u) rn rd ro _ HR.out).mono ?_
  rintro e w4 ⟨rfl, hb⟩
  have m_g1 := am_ (blk_below (by repeat first | exact BKg1.out | refine blk_alloc ?_ _ | refine kn_ ?_ _ | refine kd_ ?_) hb)
  have k_ := am_ (Dr.bel (by repeat first | exact HD.out | apply Dr.alloc | apply Dr.drewN | apply Dr.drew) hb)
  clear hb HD HB BKg1
  have HD := k_
  clear k_
  have HB := am_ HD.out.below
  have BKg1 := m_g1
  clear m_g1
  go_upto_region 2 with (fail)
  obtain ⟨W1, hW1⟩ : ∃ W1, W1 = w4.alloc (.cells #[.int .i64 rn, .int .i64 rd] 35) := ⟨_, rfl⟩
  have BKg3 := am_ (show W1.heap[w4.heap.size]? = some (.cells #[.int .i64 rn, .int .i64 rd] 35 (0, 0)) from by rw [hW1]; exact blk_new w4 _)
  have n1 := am_ (show W1.heap[g1]? = some (.cells #[.int .i64 0, .int .i64 0] 35 (0, 0)) from by rw [hW1]; exact blk_alloc BKg1.out _)
  have n2 := am_ (show Dr w wa W1 g code _ from by rw [hW1]; exact HD.out.alloc _)
  have hne : g1 ≠ w4.heap.size := Nat.ne_of_lt (blk_lt BKg1.out)
  rw [← hW1]
  clear hW1 HD HB BKg1
  have HD := n2
  have BKg1 := n1
  clear n1 n2
  generalize w4.heap.size = g3 at BKg3 hne ⊢
  have yg1_0 : W1.cell? ⟨g1, 0, none⟩ = some (.int .i64 0) := (blk_cell BKg1.out 0).trans rfl; have fg1_0 := blk_frozen BKg1.out 0; have yg1_1 : W1.cell? ⟨g1, 1, none⟩ = some (.int .i64 0) := (blk_cell BKg1.out 1).trans rfl; have fg1_1 := blk_frozen BKg1.out 1
  have yg3_0 : W1.cell? ⟨g3, 0, none⟩ = some (.int .i64 rn) := (blk_cell BKg3.out 0).trans rfl; have fg3_0 := blk_frozen BKg3.out 0; have yg3_1 : W1.cell? ⟨g3, 1, none⟩ = some (.int .i64 rd) := (blk_cell BKg3.out 1).trans rfl; have fg3_1 := blk_frozen BKg3.out 1
  have hne2 := Ne.symm hne
  go_wp2
  refine bodyPost_ret (results_single rfl (.cell g1 35 #[.int .i64 rn, .int .i64 rd] (0, 0) _ rfl (by (with_reducible repeat first | refine kn_ ?_ _ | refine kd_ ?_ | refine ka_ ?_ _); refine blk_put (cs := #[.int .i64 rn, .int .i64 0]) ?_ 1 _ rfl; (with_reducible repeat first | refine kn_ ?_ _ | refine kd_ ?_ | refine ka_ ?_ _); refine blk_put (cs := #[.int .i64 0, .int .i64 0]) ?_ 0 _ rfl; (with_reducible repeat first | refine kn_ ?_ _ | refine kd_ ?_ | refine ka_ ?_ _); exact BKg1.out) Try.underlying35 rfl (by kernel_rfl) .nil)) rfl ?_
  exact ⟨_, _, rfl, Dr.more (by repeat first | exact HD.out | apply Dr.set (hq := GAg1.out) (hb := below_size HB0.out) (hg := NGg1.out) | apply Dr.alloc | apply Dr.drewN | apply Dr.drew) (by omega)⟩
set_option maxHeartbeats 16000000 in
set_option maxRecDepth 100000 in
theorem anyFraction_c (g : Nat) (code : List Int) (B : Int) (w wa : World) (hI : Cur w wa g code B) (hB : Below w.heap.size w wa) (hb : B ≤ 800000000000) :
    Calls Try.prog 74 #[.pointer (some ⟨g, 0, none⟩)] wa fun e w' => ∃ n d, e = .returned (.agg #[.int .i64 n, .int .i64 d]) ∧ Dr w wa w' g code (B + 3) := by
  have HD := am_ (Dr.refl hI hB (Int.le_refl B))
  have HB := am_ hB
  have HB0 := am_ hB
  have hgl := hI.lt
  clear hI hB
  go_enter Try.func74, Try.ntmps74
  go_wp2_with fail
  refine (pick_c 16 (by decide) g code _ w _ (HD.out.alloc _).cur (ba_ HB.out _) (by omega)).mono ?_
  rintro e w2 ⟨v, rfl, _, hd⟩
  have BKg1 := am_ (hd.2.2.blk (g' := wa.heap.size) (o := .cells #[.int .i64 0, .int .i64 0] 35 (0, 0)) (blk_new wa _) (Nat.ne_of_gt hgl) (by simp))
  have k_ := am_ ((HD.out.alloc _).trans hd)
  clear HD HB hd
  have HD := k_
  clear k_
  have HB := am_ HD.out.below
  obtain ⟨g1, hbE⟩ : ∃ b, b = wa.heap.size := ⟨_, rfl⟩
  have GAg1 := am_ (show wa.heap.size ≤ g1 from by omega)
  have NGg1 := am_ (show g ≠ g1 from by omega)
  rw [← hbE] at BKg1 ⊢
  clear hbE hgl
  by_cases e0 : v = 0
  · have q0 : (v == 0) = true := by simp [e0]
    have z0 : decide (v = 0) = true := decide_eq_true e0
    clear e0
    have yg1_0 : w2.cell? ⟨g1, 0, none⟩ = some (.int .i64 0) := (blk_cell BKg1.out 0).trans rfl; have fg1_0 := blk_frozen BKg1.out 0; have yg1_1 : w2.cell? ⟨g1, 1, none⟩ = some (.int .i64 0) := (blk_cell BKg1.out 1).trans rfl; have fg1_1 := blk_frozen BKg1.out 1
    go_wp2
    refine bodyPost_ret (results_single rfl (.cell g1 35 #[.int .i64 2, .int .i64 4] (0, 0) _ rfl (by (with_reducible repeat first | refine kn_ ?_ _ | refine kd_ ?_ | refine ka_ ?_ _); refine blk_put (cs := #[.int .i64 2, .int .i64 0]) ?_ 1 _ rfl; (with_reducible repeat first | refine kn_ ?_ _ | refine kd_ ?_ | refine ka_ ?_ _); refine blk_put (cs := #[.int .i64 0, .int .i64 0]) ?_ 0 _ rfl; (with_reducible repeat first | refine kn_ ?_ _ | refine kd_ ?_ | refine ka_ ?_ _); exact BKg1.out) Try.underlying35 rfl (by kernel_rfl) .nil)) rfl ?_
    exact ⟨_, _, rfl, Dr.more (by repeat first | exact HD.out | apply Dr.set (hq := GAg1.out) (hb := below_size HB0.out) (hg := NGg1.out) | apply Dr.alloc | apply Dr.drewN | apply Dr.drew) (by omega)⟩
  have q0 : (v == 0) = false := by simp [e0]
  have z0 : decide (v = 0) = false := decide_eq_false e0
  clear e0
  by_cases e1 : v = 1
  · have q1 : (v == 1) = true := by simp [e1]
    have z1 : decide (v = 1) = true := decide_eq_true e1
    clear e1
    go_wp2_with fail
    refine (pick_c 3 (by decide) g code _ w _ HD.out.cur HB.out (by omega)).mono ?_
    rintro e w3 ⟨x, rfl, _, hd⟩
    have m_g1 := am_ (hd.2.2.blk (g' := g1) (o := .cells #[.int .i64 0, .int .i64 0] 35 (0, 0)) (by repeat first | exact BKg1.out | refine ka_ ?_ _ | refine kn_ ?_ _ | refine kd_ ?_) NGg1.out.symm (by simp))
    have k_ := am_ (Dr.trans HD.out hd)
    clear hd HD HB BKg1
    have HD := k_
    clear k_
    have HB := am_ HD.out.below
    have BKg1 := m_g1
    clear m_g1
    go_wp2_with fail
    refine (among_c [0, -1, 1000000000, 1000000001] w3.heap.size 4 4 (by decide) g code _ w _ (HD.out.alloc _).cur (ba_ HB.out _) (by omega) (blk_new _ _)).mono ?_
    rintro e w4 ⟨y, rfl, _, hd⟩
    have m_g1 := am_ (hd.2.2.blk (g' := g1) (o := .cells #[.int .i64 0, .int .i64 0] 35 (0, 0)) (by repeat first | exact BKg1.out | refine ka_ ?_ _ | refine kn_ ?_ _ | refine kd_ ?_) NGg1.out.symm (by simp))
    have k_ := am_ (Dr.trans (by repeat first | exact HD.out | apply Dr.alloc | apply Dr.drewN | apply Dr.drew) hd)
    clear hd HD HB BKg1
    have HD := k_
    clear k_
    have HB := am_ HD.out.below
    have BKg1 := m_g1
    clear m_g1
    have yg1_0 : w4.cell? ⟨g1, 0, none⟩ = some (.int .i64 0) := (blk_cell BKg1.out 0).trans rfl; have fg1_0 := blk_frozen BKg1.out 0; have yg1_1 : w4.cell? ⟨g1, 1, none⟩ = some (.int .i64 0) := (blk_cell BKg1.out 1).trans rfl; have fg1_1 := blk_frozen BKg1.out 1
    go_wp2
    refine bodyPost_ret (results_single rfl (.cell g1 35 #[.int .i64 x, .int .i64 y] (0, 0) _ rfl (by (with_reducible repeat first | refine kn_ ?_ _ | refine kd_ ?_ | refine ka_ ?_ _); refine blk_put (cs := #[.int .i64 x, .int .i64 0]) ?_ 1 _ rfl; (with_reducible repeat first | refine kn_ ?_ _ | refine kd_ ?_ | refine ka_ ?_ _); refine blk_put (cs := #[.int .i64 0, .int .i64 0]) ?_ 0 _ rfl; (with_reducible repeat first | refine kn_ ?_ _ | refine kd_ ?_ | refine ka_ ?_ _); exact BKg1.out) Try.underlying35 rfl (by kernel_rfl) .nil)) rfl ?_
    exact ⟨_, _, rfl, Dr.more (by repeat first | exact HD.out | apply Dr.set (hq := GAg1.out) (hb := below_size HB0.out) (hg := NGg1.out) | apply Dr.alloc | apply Dr.drewN | apply Dr.drew) (by omega)⟩
  have q1 : (v == 1) = false := by simp [e1]
  have z1 : decide (v = 1) = false := decide_eq_false e1
  clear e1
  by_cases e2 : v = 2
  · have q2 : (v == 2) = true := by simp [e2]
    have z2 : decide (v = 2) = true := decide_eq_true e2
    clear e2
    go_wp2_with fail
    refine (among_c [999999999, -999999999, 1000000001] w2.heap.size 3 3 (by decide) g code _ w _ (HD.out.alloc _).cur (ba_ HB.out _) (by omega) (blk_new _ _)).mono ?_
    rintro e w3 ⟨x, rfl, _, hd⟩
    have m_g1 := am_ (hd.2.2.blk (g' := g1) (o := .cells #[.int .i64 0, .int .i64 0] 35 (0, 0)) (by repeat first | exact BKg1.out | refine ka_ ?_ _ | refine kn_ ?_ _ | refine kd_ ?_) NGg1.out.symm (by simp))
    have k_ := am_ (Dr.trans (by repeat first | exact HD.out | apply Dr.alloc | apply Dr.drewN | apply Dr.drew) hd)
    clear hd HD HB BKg1
    have HD := k_
    clear k_
    have HB := am_ HD.out.below
    have BKg1 := m_g1
    clear m_g1
    go_wp2_with fail
    refine (among_c [1, 1000000000, 2] w3.heap.size 3 3 (by decide) g code _ w _ (HD.out.alloc _).cur (ba_ HB.out _) (by omega) (blk_new _ _)).mono ?_
    rintro e w4 ⟨y, rfl, _, hd⟩
    have m_g1 := am_ (hd.2.2.blk (g' := g1) (o := .cells #[.int .i64 0, .int .i64 0] 35 (0, 0)) (by repeat first | exact BKg1.out | refine ka_ ?_ _ | refine kn_ ?_ _ | refine kd_ ?_) NGg1.out.symm (by simp))
    have k_ := am_ (Dr.trans (by repeat first | exact HD.out | apply Dr.alloc | apply Dr.drewN | apply Dr.drew) hd)
    clear hd HD HB BKg1
    have HD := k_
    clear k_
    have HB := am_ HD.out.below
    have BKg1 := m_g1
    clear m_g1
    have yg1_0 : w4.cell? ⟨g1, 0, none⟩ = some (.int .i64 0) := (blk_cell BKg1.out 0).trans rfl; have fg1_0 := blk_frozen BKg1.out 0; have yg1_1 : w4.cell? ⟨g1, 1, none⟩ = some (.int .i64 0) := (blk_cell BKg1.out 1).trans rfl; have fg1_1 := blk_frozen BKg1.out 1
    go_wp2
    refine bodyPost_ret (results_single rfl (.cell g1 35 #[.int .i64 x, .int .i64 y] (0, 0) _ rfl (by (with_reducible repeat first | refine kn_ ?_ _ | refine kd_ ?_ | refine ka_ ?_ _); refine blk_put (cs := #[.int .i64 x, .int .i64 0]) ?_ 1 _ rfl; (with_reducible repeat first | refine kn_ ?_ _ | refine kd_ ?_ | refine ka_ ?_ _); refine blk_put (cs := #[.int .i64 0, .int .i64 0]) ?_ 0 _ rfl; (with_reducible repeat first | refine kn_ ?_ _ | refine kd_ ?_ | refine ka_ ?_ _); exact BKg1.out) Try.underlying35 rfl (by kernel_rfl) .nil)) rfl ?_
    exact ⟨_, _, rfl, Dr.more (by repeat first | exact HD.out | apply Dr.set (hq := GAg1.out) (hb := below_size HB0.out) (hg := NGg1.out) | apply Dr.alloc | apply Dr.drewN | apply Dr.drew) (by omega)⟩
  have q2 : (v == 2) = false := by simp [e2]
  have z2 : decide (v = 2) = false := decide_eq_false e2
  clear e2
  go_wp2_with fail
  refine (fraction_c g code _ w _ HD.out.cur HB.out (by omega)).mono ?_
  rintro e w3 ⟨x, y, rfl, hd⟩
  have m_g1 := am_ (hd.2.2.blk (g' := g1) (o := .cells #[.int .i64 0, .int .i64 0] 35 (0, 0)) (by repeat first | exact BKg1.out | refine ka_ ?_ _ | refine kn_ ?_ _ | refine kd_ ?_) NGg1.out.symm (by simp))
  have k_ := am_ (Dr.trans HD.out hd)
  clear hd HD HB BKg1
  have HD := k_
  clear k_
  have HB := am_ HD.out.below
  have BKg1 := m_g1
  clear m_g1
  have yg1_0 : w3.cell? ⟨g1, 0, none⟩ = some (.int .i64 0) := (blk_cell BKg1.out 0).trans rfl; have fg1_0 := blk_frozen BKg1.out 0; have yg1_1 : w3.cell? ⟨g1, 1, none⟩ = some (.int .i64 0) := (blk_cell BKg1.out 1).trans rfl; have fg1_1 := blk_frozen BKg1.out 1
  go_wp2
  refine bodyPost_ret (results_single rfl (.cell g1 35 #[.int .i64 x, .int .i64 y] (0, 0) _ rfl (by (with_reducible repeat first | refine kn_ ?_ _ | refine kd_ ?_ | refine ka_ ?_ _); refine blk_put (cs := #[.int .i64 x, .int .i64 0]) ?_ 1 _ rfl; (with_reducible repeat first | refine kn_ ?_ _ | refine kd_ ?_ | refine ka_ ?_ _); refine blk_put (cs := #[.int .i64 0, .int .i64 0]) ?_ 0 _ rfl; (with_reducible repeat first | refine kn_ ?_ _ | refine kd_ ?_ | refine ka_ ?_ _); exact BKg1.out) Try.underlying35 rfl (by kernel_rfl) .nil)) rfl ?_
  exact ⟨_, _, rfl, Dr.more (by repeat first | exact HD.out | apply Dr.set (hq := GAg1.out) (hb := below_size HB0.out) (hg := NGg1.out) | apply Dr.alloc | apply Dr.drewN | apply Dr.drew) (by omega)⟩
theorem R_offT {base : Nat} {w : World} {v : Value} {xs : List S49} (h : Kd.R k49 49 w base (fun _ => True) v xs) {g : Nat} (hd : some g ≠ v.ownBlock) (j : Nat) (u : Value) : Kd.R k49 49 (w.setCell ⟨g, j, none⟩ u) base (fun _ => True) v xs :=
  Kd.R_mono (Kd.R_far (p := ⟨g, j, none⟩) (R_flat flat_Tranche h (fun k hk => (fun e : k = g => hd (by rw [← e]; exact hk.symm) : k ≠ g))) (fun k hk => hk) u) (fun _ _ => trivial)
end Go.Proofs.Ytbnhpkkkijjkkaa.O
