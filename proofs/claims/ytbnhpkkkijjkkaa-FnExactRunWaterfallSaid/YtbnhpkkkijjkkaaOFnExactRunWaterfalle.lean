/- Walks of our own, a part of those for the law FnExactRunWaterfall: each function's contract in plain Lean. No condition beyond the bounds that each contract names. -/
import Derived.Test.YtbnhpkkkijjkkaaPureFnExactRunWaterfall
import Derived.Shelf.SlicesE.IndexFunc
import Derived.Shelf.Slices.Clone
import Derived.Shelf.Slices.Turned
import Derived.Sort.LotA
import Derived.Shelf.SlSortCmp.Insertion1
import Derived.Shelf.SlLaysH
import Derived.Shelf.Lays2
import Derived.Shelf.Lays
import Derived.Shelf.SlLaysF
import Derived.Test.YtbnhpkkkijjkkaaOFnExactRunWaterfalla
import Derived.Test.YtbnhpkkkijjkkaaOFnExactRunWaterfallb
import Derived.Test.YtbnhpkkkijjkkaaOFnExactRunWaterfallc
import Derived.Test.YtbnhpkkkijjkkaaOFnExactRunWaterfalld
namespace Go.Proofs.Ytbnhpkkkijjkkaa.O
open Go.RowKit Go.Proofs.YtbnhpkkkijjkkaaW.PrintWords Go.Proofs.YtbnhpkkkijjkkaaW.PrintLast Go.Proofs.YtbnhpkkkijjkkaaW.PrintMore Go.Proofs.Ytbnhpkkkijjkkaa.PL18D Go.Proofs.Ytbnhpkkkijjkkaa.EvKit Go.Proofs.Ytbnhpkkkijjkkaa.Pure
set_option linter.unusedVariables false
set_option linter.unusedSimpArgs false
attribute [local go_sem] max2_int min2_int max_two min_two max_three min_three max_four min_four
set_option maxHeartbeats 16000000 in
set_option maxRecDepth 100000 in
theorem distS_c (A0 : Option Addr) (c0 : Nat) (xs : List S49) (cash : Int) (w : World) (hr0 : Kd.C k49 w A0 xs.length xs) (hc0 : xs.length ≤ c0) (hn : xs.length ≤ 1048576) :
    Calls Try.prog 33 #[.slice A0 xs.length c0, .int .i64 cash] w fun e w' => ∃ v, e = .returned (.tuple #[v, .int .i64 (distA ranksL xs cash).2.1, .bool (distA ranksL xs cash).2.2]) ∧ (Kd.int .i64).R 3 w' w.heap.size (fun _ => True) v (distA ranksL xs cash).1 ∧ Below w.heap.size w w' := by
  have HB := am_ (Below.refl w.heap.size w)
  have HR0 := am_ hr0
  have HC0 := am_ hc0
  obtain ⟨kv, hv⟩ := roundsOf (specGoodT_ev xs hn)
  have hw := l1In_eq cash 0 1000000000
  clear hr0 hc0
  by_cases g : goodT xs = true
  · rw [g] at hv
    have HV := am_ hv
    by_cases hc : 0 ≤ cash ∧ cash ≤ 1000000000
    · rw [decide_eq_true hc] at hw
      have HW := am_ hw
      rw [distA_yes g hc]
      have HCB := am_ hc
      have HX0 := am_ (good_parts g).1
      have hn20 := (good_parts g).2
      clear hv hw g hc
      obtain ⟨FIN, hFIN⟩ : ∃ F, F = serveS xs ranksL (zerosN xs.length) cash := ⟨_, rfl⟩
      rw [← hFIN]
      have HFIN := am_ hFIN.symm
      clear hFIN
      go_enter Try.func33, Try.ntmps33
      go_wp2_with fail
      refine (spec_l18Good.calls kv A0 c0 xs true _ (by repeat first | exact (Kd.C_below HR0.out HB.out) | with_reducible refine ca_ ?_ _ | with_reducible refine cn_ ?_ _ | with_reducible refine cd_ ?_) HC0.out HV.out).mono ?_
      rintro e w1 ⟨rfl, hb0⟩
      have hb := db_ hb0
      clear hb0
      replace HB := am_ (below_step (by repeat first | (with_reducible first | exact HB.out | apply ba_ | apply bn_ | apply bd_) | exact HB.out) hb); clear hb
      go_wp2_with fail
      refine (spec_l1In.calls cash 0 1000000000 true _ HW.out).mono ?_
      rintro e w2 ⟨rfl, ⟨q1, rfl⟩⟩
      go_wp2_with (((with_reducible refine gate_dst (N := 20) rfl ?_); refine Kd.R_make (Kd.int .i64) w.heap.size 3 rfl (N := 20) rfl 51 _ _ rfl (xs.length : Int) rfl rfl Try.underlying51 (.int .i64 0) 8 infoI rfl (by decide) (by omega) 0 (ok := fun _ => True) (okp := fun _ => True) rfl (fun _ hk => hk) trivial (by omega) (by omega) (by repeat first | (with_reducible first | exact HB.out | apply ba_ | apply bn_ | apply bd_) | exact HB.out) (below_size (by repeat first | (with_reducible first | exact HB.out | apply ba_ | apply bn_ | apply bd_) | exact HB.out)) ?_; intro v1 w1 ho hb _ _); rw [Int.toNat_natCast] at ho; have HO8 := am_ ho; clear HB; have HB := am_ hb; clear ho hb)
      go_loopw [1, 8] (fun v1_ v8_ wr => ∃ (k : Nat) (c : Int) (out : List Int), v8_ = .int .i64 ((k : Int) + 1) ∧ v1_ = .int .i64 c ∧ Aside0 (k ≤ 10) ∧ Aside0 (0 ≤ c ∧ c ≤ 1000000000) ∧ Aside0 (out.length = xs.length) ∧ Aside0 (serveS xs (ranksL.drop k) out c = FIN) ∧ Aside0 ((Kd.int .i64).R 3 wr w.heap.size (fun _ => True) v1 out) ∧ Aside0 (Below w.heap.size w wr)) (fun _ v8_ _ => 11 - (intOf v8_).toNat)
      case atStart => exact ⟨0, cash, zerosN xs.length, by go_num, rfl, ⟨Nat.zero_le _⟩, HCB, ⟨by simp [zerosN]⟩, ⟨HFIN.out⟩, ⟨(by (with_reducible repeat first | apply ra_ | apply rn_ | apply rd_); exact HO8.out)⟩, ⟨(by repeat first | (with_reducible first | exact HB.out | apply ba_ | apply bn_ | apply bd_) | exact HB.out)⟩⟩
      case round =>
        clear HO8 HB HFIN HCB
        obtain ⟨k, c, out, rfl, rfl, HK, HCB, HOL, HF, HO8, HB⟩ := hrel
        by_cases hk : k < 10
        · have hf := HF.out
          rw [ranksL_drop k hk, serveS] at hf
          have HF2 := am_ hf
          have c1 : decide ((k : Int) + 1 ≤ 10) = true := decide_eq_true (by omega)
          have hb2 := rankS_bd HX0.out ((k : Int) + 1) out c HCB.out
          have hl2 := rankS_length xs ((k : Int) + 1) out c
          have HRS := am_ (fun (wa : World) h1 h2 => rankS_c A0 c0 xs ((k : Int) + 1) c v1 out w wa HR0.out HC0.out HX0.out hn20 HCB.out h1 HOL.out h2)
          obtain ⟨RK, hRK⟩ : ∃ R, R = rankS xs ((k : Int) + 1) out c := ⟨_, rfl⟩
          obtain ⟨o2, c2⟩ := RK
          rw [← hRK] at HRS HF2 hb2 hl2
          simp only at HRS HF2 hb2 hl2
          have HB2 := am_ hb2
          have HL2 := am_ (hl2.trans HOL.out)
          have hkb := hk
          clear hk hf hRK hb2 hl2
          go_wp2_with fail
          refine (HRS.out _ (by (with_reducible repeat first | apply ra_ | apply rn_ | apply rd_); exact HO8.out) (by repeat first | (with_reducible first | exact HB.out | apply ba_ | apply bn_ | apply bd_) | exact HB.out)).mono ?_
          rintro e w3 ⟨rfl, ho, hb⟩
          clear HO8 HB HRS
          have HO8 := am_ ho
          have HB := am_ hb
          clear ho hb
          go_wp2
          go_roundw
          case rel => exact ⟨k + 1, c2, o2, by go_num, rfl, ⟨by omega⟩, ⟨by have := HB2.out; have := HCB.out; omega⟩, HL2, HF2, ⟨(by (with_reducible repeat first | apply ra_ | apply rn_ | apply rd_); exact HO8.out)⟩, ⟨(by repeat first | (with_reducible first | exact HB.out | apply ba_ | apply bn_ | apply bd_) | exact HB.out)⟩⟩
          case measure => simp [intOf]; omega
        · have hk2 : k = 10 := by have := HK.out; omega
          have c1 : decide ((k : Int) + 1 ≤ 10) = false := decide_eq_false (by omega)
          have hf := HF.out
          rw [hk2] at hf
          have HFE := am_ (show FIN = (out, c) from hf.symm)
          have hk3 : (k : Int) = 10 := by omega
          clear hk hf hk2 HF HK hk3
          go_wp2
          go_ret3
          exact ⟨_, by rw [HFE.out]; rfl, by rw [HFE.out]; exact (by (with_reducible repeat first | apply ra_ | apply rn_ | apply rd_); exact HO8.out), (by repeat first | (with_reducible first | exact HB.out | apply ba_ | apply bn_ | apply bd_) | exact HB.out)⟩
    · rw [decide_eq_false hc] at hw
      have HW := am_ hw
      rw [distA_no (fun q => hc q.2)]
      clear hv hw g hc
      go_enter Try.func33, Try.ntmps33
      go_wp2_with fail
      refine (spec_l18Good.calls kv A0 c0 xs true _ (by repeat first | exact (Kd.C_below HR0.out HB.out) | with_reducible refine ca_ ?_ _ | with_reducible refine cn_ ?_ _ | with_reducible refine cd_ ?_) HC0.out HV.out).mono ?_
      rintro e w1 ⟨rfl, hb0⟩
      have hb := db_ hb0
      clear hb0
      replace HB := am_ (below_step (by repeat first | (with_reducible first | exact HB.out | apply ba_ | apply bn_ | apply bd_) | exact HB.out) hb); clear hb
      go_wp2_with fail
      refine (spec_l1In.calls cash 0 1000000000 false _ HW.out).mono ?_
      rintro e w2 ⟨rfl, ⟨q1, rfl⟩⟩
      go_wp2_with (((with_reducible refine gate_dst (N := 17) rfl ?_); refine Kd.R_lit (Kd.int .i64) w.heap.size 3 (w0 := w) ?hg (N := 17) ?hd (xs := []) (inner := []) (ok := fun _ => True) (okp := fun _ => True) ?hr ?hp (fun _ hk => hk) trivial (by repeat first | (with_reducible first | exact HB.out | apply ba_ | apply bn_ | apply bd_) | exact HB.out) (below_size (by repeat first | (with_reducible first | exact HB.out | apply ba_ | apply bn_ | apply bd_) | exact HB.out)) (by simp) ?_; (case hd => rfl); (case hg => rfl); (case hr => first | (go_simp; done) | (go_simp; rfl)); (case hp => exact (Reps.none _ _)); intro v1 w1 ho hb hgr hnw); have HO9 := am_ ho; clear HB; have HB := am_ hb; clear ho hb hgr hnw)
      go_ret3
      exact ⟨_, rfl, (by (with_reducible repeat first | apply ra_ | apply rn_ | apply rd_); exact HO9.out), (by repeat first | (with_reducible first | exact HB.out | apply ba_ | apply bn_ | apply bd_) | exact HB.out)⟩
  · rw [show goodT xs = false from by simpa using g] at hv
    have HV := am_ hv
    rw [distA_no (fun q => g q.1)]
    clear hv hw g
    go_enter Try.func33, Try.ntmps33
    go_wp2_with fail
    refine (spec_l18Good.calls kv A0 c0 xs false _ (by repeat first | exact (Kd.C_below HR0.out HB.out) | with_reducible refine ca_ ?_ _ | with_reducible refine cn_ ?_ _ | with_reducible refine cd_ ?_) HC0.out HV.out).mono ?_
    rintro e w1 ⟨rfl, hb0⟩
    have hb := db_ hb0
    clear hb0
    replace HB := am_ (below_step (by repeat first | (with_reducible first | exact HB.out | apply ba_ | apply bn_ | apply bd_) | exact HB.out) hb); clear hb
    go_wp2_with (((with_reducible refine gate_dst (N := 17) rfl ?_); refine Kd.R_lit (Kd.int .i64) w.heap.size 3 (w0 := w) ?hg (N := 17) ?hd (xs := []) (inner := []) (ok := fun _ => True) (okp := fun _ => True) ?hr ?hp (fun _ hk => hk) trivial (by repeat first | (with_reducible first | exact HB.out | apply ba_ | apply bn_ | apply bd_) | exact HB.out) (below_size (by repeat first | (with_reducible first | exact HB.out | apply ba_ | apply bn_ | apply bd_) | exact HB.out)) (by simp) ?_; (case hd => rfl); (case hg => rfl); (case hr => first | (go_simp; done) | (go_simp; rfl)); (case hp => exact (Reps.none _ _)); intro v1 w1 ho hb hgr hnw); have HO9 := am_ ho; clear HB; have HB := am_ hb; clear ho hb hgr hnw)
    go_ret3
    exact ⟨_, rfl, (by (with_reducible repeat first | apply ra_ | apply rn_ | apply rd_); exact HO9.out), (by repeat first | (with_reducible first | exact HB.out | apply ba_ | apply bn_ | apply bd_) | exact HB.out)⟩
set_option maxHeartbeats 16000000 in
set_option maxRecDepth 100000 in
theorem allocS_c (A0 : Option Addr) (c0 : Nat) (xs : List S49) (cash : Int) (w : World) (hr0 : Kd.C k49 w A0 xs.length xs) (hc0 : xs.length ≤ c0) (hn : xs.length ≤ 1048576) :
    Calls Try.prog 39 #[.slice A0 xs.length c0, .int .i64 cash] w fun e w' => ∃ v, e = .returned (.tuple #[v, .int .i64 (distA ranksD xs cash).2.1, .bool (distA ranksD xs cash).2.2]) ∧ (Kd.int .i64).R 3 w' w.heap.size (fun _ => True) v (distA ranksD xs cash).1 ∧ Below w.heap.size w w' := by
  have HB := am_ (Below.refl w.heap.size w)
  have HR0 := am_ hr0
  have HC0 := am_ hc0
  obtain ⟨kv, hv⟩ := roundsOf (specGoodT_ev xs hn)
  have hw := l1In_eq cash 0 1000000000
  clear hr0 hc0
  by_cases g : goodT xs = true
  · rw [g] at hv
    have HV := am_ hv
    by_cases hc : 0 ≤ cash ∧ cash ≤ 1000000000
    · rw [decide_eq_true hc] at hw
      have HW := am_ hw
      rw [distA_yes g hc]
      have HCB := am_ hc
      have HX0 := am_ (good_parts g).1
      have hn20 := (good_parts g).2
      clear hv hw g hc
      obtain ⟨FIN, hFIN⟩ : ∃ F, F = serveS xs ranksD (zerosN xs.length) cash := ⟨_, rfl⟩
      rw [← hFIN]
      have HFIN := am_ hFIN.symm
      clear hFIN
      go_enter Try.func39, Try.ntmps39
      go_wp2_with fail
      refine (spec_l18Good.calls kv A0 c0 xs true _ (by repeat first | exact (Kd.C_below HR0.out HB.out) | with_reducible refine ca_ ?_ _ | with_reducible refine cn_ ?_ _ | with_reducible refine cd_ ?_) HC0.out HV.out).mono ?_
      rintro e w1 ⟨rfl, hb0⟩
      have hb := db_ hb0
      clear hb0
      replace HB := am_ (below_step (by repeat first | (with_reducible first | exact HB.out | apply ba_ | apply bn_ | apply bd_) | exact HB.out) hb); clear hb
      go_wp2_with fail
      refine (spec_l1In.calls cash 0 1000000000 true _ HW.out).mono ?_
      rintro e w2 ⟨rfl, ⟨q1, rfl⟩⟩
      go_wp2_with (((with_reducible refine gate_dst (N := 20) rfl ?_); refine Kd.R_make (Kd.int .i64) w.heap.size 3 rfl (N := 20) rfl 51 _ _ rfl (xs.length : Int) rfl rfl Try.underlying51 (.int .i64 0) 8 infoI rfl (by decide) (by omega) 0 (ok := fun _ => True) (okp := fun _ => True) rfl (fun _ hk => hk) trivial (by omega) (by omega) (by repeat first | (with_reducible first | exact HB.out | apply ba_ | apply bn_ | apply bd_) | exact HB.out) (below_size (by repeat first | (with_reducible first | exact HB.out | apply ba_ | apply bn_ | apply bd_) | exact HB.out)) ?_; intro v1 w1 ho hb _ _); rw [Int.toNat_natCast] at ho; have HO8 := am_ ho; clear HB; have HB := am_ hb; clear ho hb)
      go_loopw [1, 8] (fun v1_ v8_ wr => ∃ (k : Nat) (c : Int) (out : List Int), v8_ = .int .i64 (10 - (k : Int)) ∧ v1_ = .int .i64 c ∧ Aside0 (k ≤ 10) ∧ Aside0 (0 ≤ c ∧ c ≤ 1000000000) ∧ Aside0 (out.length = xs.length) ∧ Aside0 (serveS xs (ranksD.drop k) out c = FIN) ∧ Aside0 ((Kd.int .i64).R 3 wr w.heap.size (fun _ => True) v1 out) ∧ Aside0 (Below w.heap.size w wr)) (fun _ v8_ _ => (intOf v8_).toNat)
      case atStart => exact ⟨0, cash, zerosN xs.length, by go_num, rfl, ⟨Nat.zero_le _⟩, HCB, ⟨by simp [zerosN]⟩, ⟨HFIN.out⟩, ⟨(by (with_reducible repeat first | apply ra_ | apply rn_ | apply rd_); exact HO8.out)⟩, ⟨(by repeat first | (with_reducible first | exact HB.out | apply ba_ | apply bn_ | apply bd_) | exact HB.out)⟩⟩
      case round =>
        clear HO8 HB HFIN HCB
        obtain ⟨k, c, out, rfl, rfl, HK, HCB, HOL, HF, HO8, HB⟩ := hrel
        by_cases hk : k < 10
        · have hf := HF.out
          rw [ranksD_drop k hk, serveS] at hf
          have HF2 := am_ hf
          have c1 : decide ((1 : Int) ≤ 10 - (k : Int)) = true := decide_eq_true (by omega)
          have hb2 := rankS_bd HX0.out (10 - (k : Int)) out c HCB.out
          have hl2 := rankS_length xs (10 - (k : Int)) out c
          have HRS := am_ (fun (wa : World) h1 h2 => rankS_c A0 c0 xs (10 - (k : Int)) c v1 out w wa HR0.out HC0.out HX0.out hn20 HCB.out h1 HOL.out h2)
          obtain ⟨RK, hRK⟩ : ∃ R, R = rankS xs (10 - (k : Int)) out c := ⟨_, rfl⟩
          obtain ⟨o2, c2⟩ := RK
          rw [← hRK] at HRS HF2 hb2 hl2
          simp only at HRS HF2 hb2 hl2
          have HB2 := am_ hb2
          have HL2 := am_ (hl2.trans HOL.out)
          have hkb := hk
          clear hk hf hRK hb2 hl2
          go_wp2_with fail
          refine (HRS.out _ (by (with_reducible repeat first | apply ra_ | apply rn_ | apply rd_); exact HO8.out) (by repeat first | (with_reducible first | exact HB.out | apply ba_ | apply bn_ | apply bd_) | exact HB.out)).mono ?_
          rintro e w3 ⟨rfl, ho, hb⟩
          clear HO8 HB HRS
          have HO8 := am_ ho
          have HB := am_ hb
          clear ho hb
          go_wp2
          go_roundw
          case rel => exact ⟨k + 1, c2, o2, by go_num, rfl, ⟨by omega⟩, ⟨by have := HB2.out; have := HCB.out; omega⟩, HL2, HF2, ⟨(by (with_reducible repeat first | apply ra_ | apply rn_ | apply rd_); exact HO8.out)⟩, ⟨(by repeat first | (with_reducible first | exact HB.out | apply ba_ | apply bn_ | apply bd_) | exact HB.out)⟩⟩
          case measure => simp [intOf]; omega
        · have hk2 : k = 10 := by have := HK.out; omega
          have c1 : decide ((1 : Int) ≤ 10 - (k : Int)) = false := decide_eq_false (by omega)
          have hf := HF.out
          rw [hk2] at hf
          have HFE := am_ (show FIN = (out, c) from hf.symm)
          have hk3 : (k : Int) = 10 := by omega
          clear hk hf hk2 HF HK hk3
          go_wp2
          go_ret3
          exact ⟨_, by rw [HFE.out]; rfl, by rw [HFE.out]; exact (by (with_reducible repeat first | apply ra_ | apply rn_ | apply rd_); exact HO8.out), (by repeat first | (with_reducible first | exact HB.out | apply ba_ | apply bn_ | apply bd_) | exact HB.out)⟩
    · rw [decide_eq_false hc] at hw
      have HW := am_ hw
      rw [distA_no (fun q => hc q.2)]
      clear hv hw g hc
      go_enter Try.func39, Try.ntmps39
      go_wp2_with fail
      refine (spec_l18Good.calls kv A0 c0 xs true _ (by repeat first | exact (Kd.C_below HR0.out HB.out) | with_reducible refine ca_ ?_ _ | with_reducible refine cn_ ?_ _ | with_reducible refine cd_ ?_) HC0.out HV.out).mono ?_
      rintro e w1 ⟨rfl, hb0⟩
      have hb := db_ hb0
      clear hb0
      replace HB := am_ (below_step (by repeat first | (with_reducible first | exact HB.out | apply ba_ | apply bn_ | apply bd_) | exact HB.out) hb); clear hb
      go_wp2_with fail
      refine (spec_l1In.calls cash 0 1000000000 false _ HW.out).mono ?_
      rintro e w2 ⟨rfl, ⟨q1, rfl⟩⟩
      go_wp2_with (((with_reducible refine gate_dst (N := 17) rfl ?_); refine Kd.R_lit (Kd.int .i64) w.heap.size 3 (w0 := w) ?hg (N := 17) ?hd (xs := []) (inner := []) (ok := fun _ => True) (okp := fun _ => True) ?hr ?hp (fun _ hk => hk) trivial (by repeat first | (with_reducible first | exact HB.out | apply ba_ | apply bn_ | apply bd_) | exact HB.out) (below_size (by repeat first | (with_reducible first | exact HB.out | apply ba_ | apply bn_ | apply bd_) | exact HB.out)) (by simp) ?_; (case hd => rfl); (case hg => rfl); (case hr => first | (go_simp; done) | (go_simp; rfl)); (case hp => exact (Reps.none _ _)); intro v1 w1 ho hb hgr hnw); have HO9 := am_ ho; clear HB; have HB := am_ hb; clear ho hb hgr hnw)
      go_ret3
      exact ⟨_, rfl, (by (with_reducible repeat first | apply ra_ | apply rn_ | apply rd_); exact HO9.out), (by repeat first | (with_reducible first | exact HB.out | apply ba_ | apply bn_ | apply bd_) | exact HB.out)⟩
  · rw [show goodT xs = false from by simpa using g] at hv
    have HV := am_ hv
    rw [distA_no (fun q => g q.1)]
    clear hv hw g
    go_enter Try.func39, Try.ntmps39
    go_wp2_with fail
    refine (spec_l18Good.calls kv A0 c0 xs false _ (by repeat first | exact (Kd.C_below HR0.out HB.out) | with_reducible refine ca_ ?_ _ | with_reducible refine cn_ ?_ _ | with_reducible refine cd_ ?_) HC0.out HV.out).mono ?_
    rintro e w1 ⟨rfl, hb0⟩
    have hb := db_ hb0
    clear hb0
    replace HB := am_ (below_step (by repeat first | (with_reducible first | exact HB.out | apply ba_ | apply bn_ | apply bd_) | exact HB.out) hb); clear hb
    go_wp2_with (((with_reducible refine gate_dst (N := 17) rfl ?_); refine Kd.R_lit (Kd.int .i64) w.heap.size 3 (w0 := w) ?hg (N := 17) ?hd (xs := []) (inner := []) (ok := fun _ => True) (okp := fun _ => True) ?hr ?hp (fun _ hk => hk) trivial (by repeat first | (with_reducible first | exact HB.out | apply ba_ | apply bn_ | apply bd_) | exact HB.out) (below_size (by repeat first | (with_reducible first | exact HB.out | apply ba_ | apply bn_ | apply bd_) | exact HB.out)) (by simp) ?_; (case hd => rfl); (case hg => rfl); (case hr => first | (go_simp; done) | (go_simp; rfl)); (case hp => exact (Reps.none _ _)); intro v1 w1 ho hb hgr hnw); have HO9 := am_ ho; clear HB; have HB := am_ hb; clear ho hb hgr hnw)
    go_ret3
    exact ⟨_, rfl, (by (with_reducible repeat first | apply ra_ | apply rn_ | apply rd_); exact HO9.out), (by repeat first | (with_reducible first | exact HB.out | apply ba_ | apply bn_ | apply bd_) | exact HB.out)⟩
theorem flat_Tranche (w : World) (b : Nat) (p q : Nat → Prop) (x : S49) (cs : List Value) (h : k49.M w b p x cs) : k49.M w b q x cs := by
  obtain rfl := k49_openM h
  exact k49_mkM w b q x

theorem infoT : (Try.prog.info? 49).map (fun i => (i.zero, i.size, i.bytes)) = some (some (.agg #[(.int .i64 0), (.int .i64 0)]), 2, 16) := by kernel_rfl
end Go.Proofs.Ytbnhpkkkijjkkaa.O
