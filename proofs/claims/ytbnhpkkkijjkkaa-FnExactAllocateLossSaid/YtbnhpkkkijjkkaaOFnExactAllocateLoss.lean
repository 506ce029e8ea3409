/- The program's AllocateLoss, and the reference's, answer as one plain function does. No other condition. -/
import Derived.Test.YtbnhpkkkijjkkaaPureFnExactAllocateLoss
import Derived.Shelf.Slices.Clone
import Derived.Shelf.Slices.Turned
import Derived.Sort.LotA
import Derived.Shelf.SlSortCmp.Insertion1
import Derived.Shelf.Slices.Reverse
import Derived.Shelf.Lays2
import Derived.Shelf.Lays
import Derived.Shelf.SlLaysF
import Derived.Test.YtbnhpkkkijjkkaaOFnExactAllocateLossa
import Derived.Test.YtbnhpkkkijjkkaaOFnExactAllocateLossb
import Derived.Test.YtbnhpkkkijjkkaaOFnExactAllocateLossc
import Derived.Test.YtbnhpkkkijjkkaaOFnExactAllocateLossd
namespace Go.Proofs.Ytbnhpkkkijjkkaa.O
open Go.RowKit Go.Proofs.YtbnhpkkkijjkkaaW.PrintWords Go.Proofs.YtbnhpkkkijjkkaaW.PrintLast Go.Proofs.YtbnhpkkkijjkkaaW.PrintMore Go.Proofs.Ytbnhpkkkijjkkaa.PL18W Go.Proofs.Ytbnhpkkkijjkkaa.EvKit Go.Proofs.Ytbnhpkkkijjkkaa.Pure
set_option linter.unusedVariables false
set_option linter.unusedSimpArgs false
attribute [local go_sem] max2_int min2_int max_two min_two max_three min_three max_four min_four
set_option maxHeartbeats 16000000 in
set_option maxRecDepth 100000 in
theorem distS_c (A0 : Option Addr) (c0 : Nat) (xs : List S49) (cash : Int) (w : World) (hr0 : Kd.C k49 w A0 xs.length xs) (hc0 : xs.length ≤ c0) (hn : xs.length ≤ 1048576) :
    Calls Try.prog 33 #[.slice A0 xs.length c0, .int .i64 cash] w fun e w' => ∃ v, e = .returned (.tuple #[v, .int .i64 (distA ranksL xs cash).2.1, .bool (distA ranksL xs cash).2.2]) ∧ (Kd.int .i64).R 3 w' w.heap.size (fun _ => True) v (distA ranksL xs cash).1 ∧ Below w.heap.size w w' := by
  have HB := am_ (Below.refl w.heap.size w)
  have HR0 := am_ hr0
  have HC0 := am_ hc0
  obtain ⟨kv, hv⟩ := roundsOf (specGoodT_ev xs hn)
  have hw := l1In_eq cash 0 1000000000
  clear hr0 hc0
  by_cases g : goodT xs = true
  · rw [g] at hv
    have HV := am_ hv
    by_cases hc : 0 ≤ cash ∧ cash ≤ 1000000000
    · rw [decide_eq_true hc] at hw
      have HW := am_ hw
      rw [distA_yes g hc]
      have HCB := am_ hc
      have HX0 := am_ (good_parts g).1
      have hn20 := (good_parts g).2
      clear hv hw g hc
      obtain ⟨FIN, hFIN⟩ : ∃ F, F = serveS xs ranksL (zerosN xs.length) cash := ⟨_, rfl⟩
      rw [← hFIN]
      have HFIN := am_ hFIN.symm
      clear hFIN
      go_enter Try.func33, Try.ntmps33
      go_wp2_with fail
      refine (spec_l18Good.calls kv A0 c0 xs true _ (by repeat first | exact (Kd.C_below HR0.out HB.out) | with_reducible refine ca_ ?_ _ | with_reducible refine cn_ ?_ _ | with_reducible refine cd_ ?_) HC0.out HV.out).mono ?_
      rintro e w1 ⟨rfl, hb0⟩
      have hb := db_ hb0
      clear hb0
      replace HB := am_ (below_step (by repeat first | (with_reducible first | exact HB.out | apply ba_ | apply bn_ | apply bd_) | exact HB.out) hb); clear hb
      go_wp2_with fail
      refine (spec_l1In.calls cash 0 1000000000 true _ HW.out).mono ?_
      rintro e w2 ⟨rfl, ⟨q1, rfl⟩⟩
      go_wp2_with (((with_reducible refine gate_dst (N := 20) rfl ?_); refine Kd.R_make (Kd.int .i64) w.heap.size 3 rfl (N := 20) rfl 51 _ _ rfl (xs.length : Int) rfl rfl Try.underlying51 (.int .i64 0) 8 infoI rfl (by decide) (by omega) 0 (ok := fun _ => True) (okp := fun _ => True) rfl (fun _ hk => hk) trivial (by omega) (by omega) (by repeat first | (with_reducible first | exact HB.out | apply ba_ | apply bn_ | apply bd_) | exact HB.out) (below_size (by repeat first | (with_reducible first | exact HB.out | apply ba_ | apply bn_ | apply bd_) | exact HB.out)) ?_; intro v1 w1 ho hb _ _); rw [Int.toNat_natCast] at ho; have HO8 := am_ ho; clear HB; have HB := am_ hb; clear ho hb)
      go_loopw [1, 8] (fun v1_ v8_ wr => ∃ (k : Nat) (c : Int) (out : List Int), v8_ = .int .i64 ((k : Int) + 1) ∧ v1_ = .int .i64 c ∧ Aside0 (k ≤ 10) ∧ Aside0 (0 ≤ c ∧ c ≤ 1000000000) ∧ Aside0 (out.length = xs.length) ∧ Aside0 (serveS xs (ranksL.drop k) out c = FIN) ∧ Aside0 ((Kd.int .i64).R 3 wr w.heap.size (fun _ => True) v1 out) ∧ Aside0 (Below w.heap.size w wr)) (fun _ v8_ _ => 11 - (intOf v8_).toNat)
      case atStart => exact ⟨0, cash, zerosN xs.length, by go_num, rfl, ⟨Nat.zero_le _⟩, HCB, ⟨by simp [zerosN]⟩, ⟨HFIN.out⟩, ⟨(by (with_reducible repeat first | apply ra_ | apply rn_ | apply rd_); exact HO8.out)⟩, ⟨(by repeat first | (with_reducible first | exact HB.out | apply ba_ | apply bn_ | apply bd_) | exact HB.out)⟩⟩
      case round =>
        clear HO8 HB HFIN HCB
        obtain ⟨k, c, out, rfl, rfl, HK, HCB, HOL, HF, HO8, HB⟩ := hrel
        by_cases hk : k < 10
        · have hf := HF.out
          rw [ranksL_drop k hk, serveS] at hf
          have HF2 := am_ hf
          have c1 : decide ((k : Int) + 1 ≤ 10) = true := decide_eq_true (by omega)
          have hb2 := rankS_bd HX0.out ((k : Int) + 1) out c HCB.out
          have hl2 := rankS_length xs ((k : Int) + 1) out c
          have HRS := am_ (fun (wa : World) h1 h2 => rankS_c A0 c0 xs ((k : Int) + 1) c v1 out w wa HR0.out HC0.out HX0.out hn20 HCB.out h1 HOL.out h2)
          obtain ⟨RK, hRK⟩ : ∃ R, R = rankS xs ((k : Int) + 1) out c := ⟨_, rfl⟩
          obtain ⟨o2, c2⟩ := RK
          rw [← hRK] at HRS HF2 hb2 hl2
          simp only at HRS HF2 hb2 hl2
          have HB2 := am_ hb2
          have HL2 := am_ (hl2.trans HOL.out)
          have hkb := hk
          clear hk hf hRK hb2 hl2
          go_wp2_with fail
          refine (HRS.out _ (by (with_reducible repeat first | apply ra_ | apply rn_ | apply rd_); exact HO8.out) (by repeat first | (with_reducible first | exact HB.out | apply ba_ | apply bn_ | apply bd_) | exact HB.out)).mono ?_
          rintro e w3 ⟨rfl, ho, hb⟩
          clear HO8 HB HRS
          have HO8 := am_ ho
          have HB := am_ hb
          clear ho hb
          go_wp2
          go_roundw
          case rel => exact ⟨k + 1, c2, o2, by go_num, rfl, ⟨by omega⟩, ⟨by have := HB2.out; have := HCB.out; omega⟩, HL2, HF2, ⟨(by (with_reducible repeat first | apply ra_ | apply rn_ | apply rd_); exact HO8.out)⟩, ⟨(by repeat first | (with_reducible first | exact HB.out | apply ba_ | apply bn_ | apply bd_) | exact HB.out)⟩⟩
          case measure => simp [intOf]; omega
        · have hk2 : k = 10 := by have := HK.out; omega
          have c1 : decide ((k : Int) + 1 ≤ 10) = false := decide_eq_false (by omega)
          have hf := HF.out
          rw [hk2] at hf
          have HFE := am_ (show FIN = (out, c) from hf.symm)
          have hk3 : (k : Int) = 10 := by omega
          clear hk hf hk2 HF HK hk3
          go_wp2
          go_ret3
          exact ⟨_, by rw [HFE.out]; rfl, by rw [HFE.out]; exact (by (with_reducible repeat first | apply ra_ | apply rn_ | apply rd_); exact HO8.out), (by repeat first | (with_reducible first | exact HB.out | apply ba_ | apply bn_ | apply bd_) | exact HB.out)⟩
    · rw [decide_eq_false hc] at hw
      have HW := am_ hw
      rw [distA_no (fun q => hc q.2)]
      clear hv hw g hc
      go_enter Try.func33, Try.ntmps33
      go_wp2_with fail
      refine (spec_l18Good.calls kv A0 c0 xs true _ (by repeat first | exact (Kd.C_below HR0.out HB.out) | with_reducible refine ca_ ?_ _ | with_reducible refine cn_ ?_ _ | with_reducible refine cd_ ?_) HC0.out HV.out).mono ?_
      rintro e w1 ⟨rfl, hb0⟩
      have hb := db_ hb0
      clear hb0
      replace HB := am_ (below_step (by repeat first | (with_reducible first | exact HB.out | apply ba_ | apply bn_ | apply bd_) | exact HB.out) hb); clear hb
      go_wp2_with fail
      refine (spec_l1In.calls cash 0 1000000000 false _ HW.out).mono ?_
      rintro e w2 ⟨rfl, ⟨q1, rfl⟩⟩
      go_wp2_with (((with_reducible refine gate_dst (N := 17) rfl ?_); refine Kd.R_lit (Kd.int .i64) w.heap.size 3 (w0 := w) ?hg (N := 17) ?hd (xs := []) (inner := []) (ok := fun _ => True) (okp := fun _ => True) ?hr ?hp (fun _ hk => hk) trivial (by repeat first | (with_reducible first | exact HB.out | apply ba_ | apply bn_ | apply bd_) | exact HB.out) (below_size (by repeat first | (with_reducible first | exact HB.out | apply ba_ | apply bn_ | apply bd_) | exact HB.out)) (by simp) ?_; (case hd => rfl); (case hg => rfl); (case hr => first | (go_simp; done) | (go_simp; rfl)); (case hp => exact (Reps.none _ _)); intro v1 w1 ho hb hgr hnw); have HO9 := am_ ho; clear HB; have HB := am_ hb; clear ho hb hgr hnw)
      go_ret3
      exact ⟨_, rfl, (by (with_reducible repeat first | apply ra_ | apply rn_ | apply rd_); exact HO9.out), (by repeat first | (with_reducible first | exact HB.out | apply ba_ | apply bn_ | apply bd_) | exact HB.out)⟩
  · rw [show goodT xs = false from by simpa using g] at hv
    have HV := am_ hv
    rw [distA_no (fun q => g q.1)]
    clear hv hw g
    go_enter Try.func33, Try.ntmps33
    go_wp2_with fail
    refine (spec_l18Good.calls kv A0 c0 xs false _ (by repeat first | exact (Kd.C_below HR0.out HB.out) | with_reducible refine ca_ ?_ _ | with_reducible refine cn_ ?_ _ | with_reducible refine cd_ ?_) HC0.out HV.out).mono ?_
    rintro e w1 ⟨rfl, hb0⟩
    have hb := db_ hb0
    clear hb0
    replace HB := am_ (below_step (by repeat first | (with_reducible first | exact HB.out | apply ba_ | apply bn_ | apply bd_) | exact HB.out) hb); clear hb
    go_wp2_with (((with_reducible refine gate_dst (N := 17) rfl ?_); refine Kd.R_lit (Kd.int .i64) w.heap.size 3 (w0 := w) ?hg (N := 17) ?hd (xs := []) (inner := []) (ok := fun _ => True) (okp := fun _ => True) ?hr ?hp (fun _ hk => hk) trivial (by repeat first | (with_reducible first | exact HB.out | apply ba_ | apply bn_ | apply bd_) | exact HB.out) (below_size (by repeat first | (with_reducible first | exact HB.out | apply ba_ | apply bn_ | apply bd_) | exact HB.out)) (by simp) ?_; (case hd => rfl); (case hg => rfl); (case hr => first | (go_simp; done) | (go_simp; rfl)); (case hp => exact (Reps.none _ _)); intro v1 w1 ho hb hgr hnw); have HO9 := am_ ho; clear HB; have HB := am_ hb; clear ho hb hgr hnw)
    go_ret3
    exact ⟨_, rfl, (by (with_reducible repeat first | apply ra_ | apply rn_ | apply rd_); exact HO9.out), (by repeat first | (with_reducible first | exact HB.out | apply ba_ | apply bn_ | apply bd_) | exact HB.out)⟩
set_option maxHeartbeats 16000000 in
set_option maxRecDepth 100000 in
theorem allocS_c (A0 : Option Addr) (c0 : Nat) (xs : List S49) (cash : Int) (w : World) (hr0 : Kd.C k49 w A0 xs.length xs) (hc0 : xs.length ≤ c0) (hn : xs.length ≤ 1048576) :
    Calls Try.prog 39 #[.slice A0 xs.length c0, .int .i64 cash] w fun e w' => ∃ v, e = .returned (.tuple #[v, .int .i64 (distA ranksD xs cash).2.1, .bool (distA ranksD xs cash).2.2]) ∧ (Kd.int .i64).R 3 w' w.heap.size (fun _ => True) v (distA ranksD xs cash).1 ∧ Below w.heap.size w w' := by
  have HB := am_ (Below.refl w.heap.size w)
  have HR0 := am_ hr0
  have HC0 := am_ hc0
  obtain ⟨kv, hv⟩ := roundsOf (specGoodT_ev xs hn)
  have hw := l1In_eq cash 0 1000000000
  clear hr0 hc0
  by_cases g : goodT xs = true
  · rw [g] at hv
    have HV := am_ hv
    by_cases hc : 0 ≤ cash ∧ cash ≤ 1000000000
    · rw [decide_eq_true hc] at hw
      have HW := am_ hw
      rw [distA_yes g hc]
      have HCB := am_ hc
      have HX0 := am_ (good_parts g).1
      have hn20 := (good_parts g).2
      clear hv hw g hc
      obtain ⟨FIN, hFIN⟩ : ∃ F, F = serveS xs ranksD (zerosN xs.length) cash := ⟨_, rfl⟩
      rw [← hFIN]
      have HFIN := am_ hFIN.symm
      clear hFIN
      go_enter Try.func39, Try.ntmps39
      go_wp2_with fail
      refine (spec_l18Good.calls kv A0 c0 xs true _ (by repeat first | exact (Kd.C_below HR0.out HB.out) | with_reducible refine ca_ ?_ _ | with_reducible refine cn_ ?_ _ | with_reducible refine cd_ ?_) HC0.out HV.out).mono ?_
      rintro e w1 ⟨rfl, hb0⟩
      have hb := db_ hb0
      clear hb0
      replace HB := am_ (below_step (by repeat first | (with_reducible first | exact HB.out | apply ba_ | apply bn_ | apply bd_) | exact HB.out) hb); clear hb
      go_wp2_with fail
      refine (spec_l1In.calls cash 0 1000000000 true _ HW.out).mono ?_
      rintro e w2 ⟨rfl, ⟨q1, rfl⟩⟩
      go_wp2_with (((with_reducible refine gate_dst (N := 20) rfl ?_); refine Kd.R_make (Kd.int .i64) w.heap.size 3 rfl (N := 20) rfl 51 _ _ rfl (xs.length : Int) rfl rfl Try.underlying51 (.int .i64 0) 8 infoI rfl (by decide) (by omega) 0 (ok := fun _ => True) (okp := fun _ => True) rfl (fun _ hk => hk) trivial (by omega) (by omega) (by repeat first | (with_reducible first | exact HB.out | apply ba_ | apply bn_ | apply bd_) | exact HB.out) (below_size (by repeat first | (with_reducible first | exact HB.out | apply ba_ | apply bn_ | apply bd_) | exact HB.out)) ?_; intro v1 w1 ho hb _ _); rw [Int.toNat_natCast] at ho; have HO8 := am_ ho; clear HB; have HB := am_ hb; clear ho hb)
      go_loopw [1, 8] (fun v1_ v8_ wr => ∃ (k : Nat) (c : Int) (out : List Int), v8_ = .int .i64 (10 - (k : Int)) ∧ v1_ = .int .i64 c ∧ Aside0 (k ≤ 10) ∧ Aside0 (0 ≤ c ∧ c ≤ 1000000000) ∧ Aside0 (out.length = xs.length) ∧ Aside0 (serveS xs (ranksD.drop k) out c = FIN) ∧ Aside0 ((Kd.int .i64).R 3 wr w.heap.size (fun _ => True) v1 out) ∧ Aside0 (Below w.heap.size w wr)) (fun _ v8_ _ => (intOf v8_).toNat)
      case atStart => exact ⟨0, cash, zerosN xs.length, by go_num, rfl, ⟨Nat.zero_le _⟩, HCB, ⟨by simp [zerosN]⟩, ⟨HFIN.out⟩, ⟨(by (with_reducible repeat first | apply ra_ | apply rn_ | apply rd_); exact HO8.out)⟩, ⟨(by repeat first | (with_reducible first | exact HB.out | apply ba_ | apply bn_ | apply bd_) | exact HB.out)⟩⟩
      case round =>
        clear HO8 HB HFIN HCB
        obtain ⟨k, c, out, rfl, rfl, HK, HCB, HOL, HF, HO8, HB⟩ := hrel
        by_cases hk : k < 10
        · have hf := HF.out
          rw [ranksD_drop k hk, serveS] at hf
          have HF2 := am_ hf
          have c1 : decide ((1 : Int) ≤ 10 - (k : Int)) = true := decide_eq_true (by omega)
          have hb2 := rankS_bd HX0.out (10 - (k : Int)) out c HCB.out
          have hl2 := rankS_length xs (10 - (k : Int)) out c
          have HRS := am_ (fun (wa : World) h1 h2 => rankS_c A0 c0 xs (10 - (k : Int)) c v1 out w wa HR0.out HC0.out HX0.out hn20 HCB.out h1 HOL.out h2)
          obtain ⟨RK, hRK⟩ : ∃ R, R = rankS xs (10 - (k : Int)) out c := ⟨_, rfl⟩
          obtain ⟨o2, c2⟩ := RK
          rw [← hRK] at HRS HF2 hb2 hl2
          simp only at HRS HF2 hb2 hl2
          have HB2 := am_ hb2
          have HL2 := am_ (hl2.trans HOL.out)
          have hkb := hk
          clear hk hf hRK hb2 hl2
          go_wp2_with fail
          refine (HRS.out _ (by (with_reducible repeat first | apply ra_ | apply rn_ | apply rd_); exact HO8.out) (by repeat first | (with_reducible first | exact HB.out | apply ba_ | apply bn_ | apply bd_) | exact HB.out)).mono ?_
          rintro e w3 ⟨rfl, ho, hb⟩
          clear HO8 HB HRS
          have HO8 := am_ ho
          have HB := am_ hb
          clear ho hb
          go_wp2
          go_roundw
          case rel => exact ⟨k + 1, c2, o2, by go_num, rfl, ⟨by omega⟩, ⟨by have := HB2.out; have := HCB.out; omega⟩, HL2, HF2, ⟨(by (with_reducible repeat first | apply ra_ | apply rn_ | apply rd_); exact HO8.out)⟩, ⟨(by repeat first | (with_reducible first | exact HB.out | apply ba_ | apply bn_ | apply bd_) | exact HB.out)⟩⟩
          case measure => simp [intOf]; omega
        · have hk2 : k = 10 := by have := HK.out; omega
          have c1 : decide ((1 : Int) ≤ 10 - (k : Int)) = false := decide_eq_false (by omega)
          have hf := HF.out
          rw [hk2] at hf
          have HFE := am_ (show FIN = (out, c) from hf.symm)
          have hk3 : (k : Int) = 10 := by omega
          clear hk hf hk2 HF HK hk3
          go_wp2
          go_ret3
          exact ⟨_, by rw [HFE.out]; rfl, by rw [HFE.out]; exact (by (with_reducible repeat first | apply ra_ | apply rn_ | apply rd_); exact HO8.out), (by repeat first | (with_reducible first | exact HB.out | apply ba_ | apply bn_ | apply bd_) | exact HB.out)⟩
    · rw [decide_eq_false hc] at hw
      have HW := am_ hw
      rw [distA_no (fun q => hc q.2)]
      clear hv hw g hc
      go_enter Try.func39, Try.ntmps39
      go_wp2_with fail
      refine (spec_l18Good.calls kv A0 c0 xs true _ (by repeat first | exact (Kd.C_below HR0.out HB.out) | with_reducible refine ca_ ?_ _ | with_reducible refine cn_ ?_ _ | with_reducible refine cd_ ?_) HC0.out HV.out).mono ?_
      rintro e w1 ⟨rfl, hb0⟩
      have hb := db_ hb0
      clear hb0
      replace HB := am_ (below_step (by repeat first | (with_reducible first | exact HB.out | apply ba_ | apply bn_ | apply bd_) | exact HB.out) hb); clear hb
      go_wp2_with fail
      refine (spec_l1In.calls cash 0 1000000000 false _ HW.out).mono ?_
      rintro e w2 ⟨rfl, ⟨q1, rfl⟩⟩
      go_wp2_with (((with_reducible refine gate_dst (N := 17) rfl ?_); refine Kd.R_lit (Kd.int .i64) w.heap.size 3 (w0 := w) ?hg (N := 17) ?hd (xs := []) (inner := []) (ok := fun _ => True) (okp := fun _ => True) ?hr ?hp (fun _ hk => hk) trivial (by repeat first | (with_reducible first | exact HB.out | apply ba_ | apply bn_ | apply bd_) | exact HB.out) (below_size (by repeat first | (with_reducible first | exact HB.out | apply ba_ | apply bn_ | apply bd_) | exact HB.out)) (by simp) ?_; (case hd => rfl); (case hg => rfl); (case hr => first | (go_simp; done) | (go_simp; rfl)); (case hp => exact (Reps.none _ _)); intro v1 w1 ho hb hgr hnw); have HO9 := am_ ho; clear HB; have HB := am_ hb; clear ho hb hgr hnw)
      go_ret3
      exact ⟨_, rfl, (by (with_reducible repeat first | apply ra_ | apply rn_ | apply rd_); exact HO9.out), (by repeat first | (with_reducible first | exact HB.out | apply ba_ | apply bn_ | apply bd_) | exact HB.out)⟩
  · rw [show goodT xs = false from by simpa using g] at hv
    have HV := am_ hv
    rw [distA_no (fun q => g q.1)]
    clear hv hw g
    go_enter Try.func39, Try.ntmps39
    go_wp2_with fail
    refine (spec_l18Good.calls kv A0 c0 xs false _ (by repeat first | exact (Kd.C_below HR0.out HB.out) | with_reducible refine ca_ ?_ _ | with_reducible refine cn_ ?_ _ | with_reducible refine cd_ ?_) HC0.out HV.out).mono ?_
    rintro e w1 ⟨rfl, hb0⟩
    have hb := db_ hb0
    clear hb0
    replace HB := am_ (below_step (by repeat first | (with_reducible first | exact HB.out | apply ba_ | apply bn_ | apply bd_) | exact HB.out) hb); clear hb
    go_wp2_with (((with_reducible refine gate_dst (N := 17) rfl ?_); refine Kd.R_lit (Kd.int .i64) w.heap.size 3 (w0 := w) ?hg (N := 17) ?hd (xs := []) (inner := []) (ok := fun _ => True) (okp := fun _ => True) ?hr ?hp (fun _ hk => hk) trivial (by repeat first | (with_reducible first | exact HB.out | apply ba_ | apply bn_ | apply bd_) | exact HB.out) (below_size (by repeat first | (with_reducible first | exact HB.out | apply ba_ | apply bn_ | apply bd_) | exact HB.out)) (by simp) ?_; (case hd => rfl); (case hg => rfl); (case hr => first | (go_simp; done) | (go_simp; rfl)); (case hp => exact (Reps.none _ _)); intro v1 w1 ho hb hgr hnw); have HO9 := am_ ho; clear HB; have HB := am_ hb; clear ho hb hgr hnw)
    go_ret3
    exact ⟨_, rfl, (by (with_reducible repeat first | apply ra_ | apply rn_ | apply rd_); exact HO9.out), (by repeat first | (with_reducible first | exact HB.out | apply ba_ | apply bn_ | apply bd_) | exact HB.out)⟩
def Lrev_ren : Go.Shelf.Ren := ⟨fun | 112 => 78 | n => n, fun | 0 => 0 | 3 => 3 | 4 => 4 | 28 => 51 | n => n, fun | n => n⟩
theorem Lrev : Go.Proofs.Lays.n112 Try.prog Lrev_ren := {
  mixed := by kernel_rfl,
  f112 := Try.func78.trans (congrArg some (by kernel_rfl)),
  t0 := Try.underlying0,
  a0 := Try.isAgg0,
  z0 := Try.sizeOf0,
  v0 := Try.zeroValue0,
  t3 := Try.underlying3,
  a3 := Try.isAgg3,
  z3 := Try.sizeOf3,
  v3 := Try.zeroValue3,
  t4 := Try.underlying4,
  a4 := Try.isAgg4,
  z4 := Try.sizeOf4,
  v4 := Try.zeroValue4,
  t28 := Try.underlying51,
  a28 := Try.isAgg51,
  z28 := Try.sizeOf51,
  v28 := Try.zeroValue51 }

section
open Go.Sort Go.Shelf
theorem R_putRow {g n cap base : Nat} {ok : Nat → Prop} {w : World} {xs : List Int} (ys : List Int) (h : (Kd.int .i64).R 3 w base ok (.slice (some ⟨g, 0, none⟩) n cap) xs) (hl : ys.length = n) (m : Nat) :
    (Kd.int .i64).R 3 (putRow (Value.int .i64) (Go.Sort.ahead w m) g 0 ys.toArray) base ok (.slice (some ⟨g, 0, none⟩) n cap) ys := by
  obtain ⟨e1, _, _⟩ := Kd.R_reads' h
  have ho := Kd.own_of_R h
  have hok := h.1
  obtain ⟨h1, h2⟩ := ho
  rcases h2 with ⟨h2, _⟩ | ⟨g', cap', cur, h2, hg, hh, hn, hm, hs, ht⟩
  · cases h2
  injection h2 with h3 h4 h5
  injection h3 with h3
  injection h3 with h3
  subst h3 h5
  refine Kd.R_of_own ⟨by simp [encs], .inr ⟨g, cap, putCells (Value.int .i64) 0 ys.toArray cur, by rw [hl], hg, ?_, by rw [hl]; omega, hm, ?_, ?_⟩⟩ hok
  · unfold putRow mapBlock
    simp only [Array.getElem?_modify, if_true]
    show Option.map _ (w.heap[g]?) = _
    rw [hh]
    rfl
  · unfold putCells; rw [Array.size_mapIdx]; exact hs
  · apply List.ext_getElem?
    intro j
    have hcs : cur.size = cap := by rw [hs]; omega
    rw [List.getElem?_take, hl]
    by_cases hj : j < n
    · rw [if_pos (by omega), Array.getElem?_toList, putCells, Array.getElem?_mapIdx, Array.getElem?_eq_getElem (by omega), Option.map_some, if_pos ⟨by omega, by simp; omega⟩, encs, List.getElem?_map, List.getElem?_eq_getElem (by omega)]
      simp only [Option.map_some, Nat.sub_zero]
      rw [getElem!_pos ys.toArray j (by simpa using (by omega : j < ys.length))]
      simp
    · rw [if_neg (by omega), encs, List.getElem?_map, List.getElem?_eq_none (by omega)]
      rfl
theorem reverse_c (g cap : Nat) (w : World) (base : Nat) (wa : World) (ho : (Kd.int .i64).R 3 wa base (fun _ => True) (.slice (some ⟨g, 0, none⟩) 10 cap) ranksL) (hb : Below base w wa) (hg : base ≤ g) :
    Calls Try.prog 78 #[.slice (some ⟨g, 0, none⟩) 10 cap] wa fun e w' => e = .returned (.tuple #[]) ∧ (Kd.int .i64).R 3 w' base (fun _ => True) (.slice (some ⟨g, 0, none⟩) 10 cap) ranksD ∧ Below base w w' := by
  have hH : Holds (Value.int .i64) wa g 0 ranksL.toArray := fun j hj => by
    have hj' : j < 10 := hj
    obtain ⟨h1, h2⟩ := Kd.R_celln 0 ho (j : Int) (by omega) (by omega)
    rw [Int.toNat_natCast] at h1 h2
    rw [Nat.zero_add]
    refine ⟨h1.trans ?_, h2⟩
    have e : ranksL.getD j 0 = ranksL.toArray[j]! := by
      rw [List.getD_eq_getElem?_getD, List.getElem?_eq_getElem (show j < ranksL.length from hj'), getElem!_pos ranksL.toArray j (show j < ranksL.toArray.size from hj')]
      simp
    exact congrArg (fun z => some (Value.int .i64 z)) e
  refine (Any.slices_Reverse_int (P := Try.prog) Lrev g 0 cap ranksL wa hH (by decide)).mono ?_
  rintro e w' ⟨he, n, hw⟩
  subst hw
  refine ⟨he, R_putRow ranksD ho rfl n, hb.trans ⟨rfl, rfl, rfl, ?_, fun k hk => ?_⟩⟩
  · rw [Go.Sort.size_putRow]; exact Nat.le_refl _
  · unfold putRow mapBlock
    simp only [Array.getElem?_modify, if_neg (show ¬ g = k by omega)]
    rfl
end
set_option maxHeartbeats 16000000 in
set_option maxRecDepth 100000 in
theorem allocI_c (A0 : Option Addr) (c0 : Nat) (xs : List S49) (cash : Int) (w : World) (hr0 : Kd.C k49 w A0 xs.length xs) (hc0 : xs.length ≤ c0) (hn : xs.length ≤ 1048576) :
    Calls Try.prog 40 #[.slice A0 xs.length c0, .int .i64 cash] w fun e w' => ∃ v, e = .returned (.tuple #[v, .int .i64 (distA ranksD xs cash).2.1, .bool (distA ranksD xs cash).2.2]) ∧ (Kd.int .i64).R 3 w' w.heap.size (fun _ => True) v (distA ranksD xs cash).1 ∧ Below w.heap.size w w' := by
  have HB := am_ (Below.refl w.heap.size w)
  have HR0 := am_ hr0
  have HC0 := am_ hc0
  obtain ⟨kv, hv⟩ := roundsOf (implValidT_ev xs hn)
  have hw := within_eq cash 0 1000000000
  obtain ⟨ku, hu⟩ := roundsOf ranksUp_ev
  have HU := am_ hu
  clear hr0 hc0 hu
  by_cases g : goodT xs = true
  · rw [g] at hv
    have HV := am_ hv
    by_cases hc : 0 ≤ cash ∧ cash ≤ 1000000000
    · rw [decide_eq_true hc] at hw
      have HW := am_ hw
      rw [distA_yes g hc]
      have HCB := am_ hc
      have HX0 := am_ (good_parts g).1
      have hn20 := (good_parts g).2
      clear hv hw g hc
      obtain ⟨FIN, hFIN⟩ : ∃ F, F = serveS xs ranksD (zerosN xs.length) cash := ⟨_, rfl⟩
      rw [← hFIN]
      have HFIN := am_ hFIN.symm
      clear hFIN
      go_enter Try.func40, Try.ntmps40
      go_wp2_with fail
      refine (impl_IsValidTranches.calls kv A0 c0 xs true _ (by repeat first | exact (Kd.C_below HR0.out HB.out) | with_reducible refine ca_ ?_ _ | with_reducible refine cn_ ?_ _ | with_reducible refine cd_ ?_) HC0.out HV.out).mono ?_
      rintro e w1 ⟨rfl, hb⟩
      replace HB := am_ (below_step (by repeat first | (with_reducible first | exact HB.out | apply ba_ | apply bn_ | apply bd_) | exact HB.out) hb); clear hb
      go_wp2_with fail
      refine (impl_within.calls cash 0 1000000000 true _ HW.out).mono ?_
      rintro e w2 ⟨rfl, ⟨q1, rfl⟩⟩
      go_wp2_with fail
      refine (impl_ranksUp.calls ku ranksL _ HU.out).mono ?_
      rintro e w3 ⟨vr, rfl, ho, hb⟩
      have HO7 := am_ (Kd.R_lower ho (show w.heap.size ≤ _ from below_size (by repeat first | (with_reducible first | exact HB.out | apply ba_ | apply bn_ | apply bd_) | exact HB.out)))
      replace HB := am_ (below_step (by repeat first | (with_reducible first | exact HB.out | apply ba_ | apply bn_ | apply bd_) | exact HB.out) hb); clear hb
      clear ho
      obtain ⟨gr, cr, er, hgr, _, _⟩ := Kd.R_form HO7.out (by decide)
      obtain rfl : vr = .slice (some ⟨gr, 0, none⟩) 10 cr := er
      go_wp2_with fail
      refine (reverse_c gr cr w w.heap.size _ (by (with_reducible repeat first | apply ra_ | apply rn_ | apply rd_); exact HO7.out) (by repeat first | (with_reducible first | exact HB.out | apply ba_ | apply bn_ | apply bd_) | exact HB.out) hgr).mono ?_
      rintro e w4 ⟨rfl, ho, hb⟩
      clear HO7 HB
      have HO7 := am_ ho
      have HB := am_ hb
      clear ho hb
      go_wp2_with fail
      refine calls_of_args (args' := #[.slice A0 xs.length c0, .int .i64 cash, .slice (some ⟨gr, 0, none⟩) ranksD.length cr]) rfl ?_
      refine (served_c A0 c0 gr cr xs ranksD cash _ (by repeat first | exact (Kd.C_below HR0.out HB.out) | with_reducible refine ca_ ?_ _ | with_reducible refine cn_ ?_ _ | with_reducible refine cd_ ?_) HC0.out HX0.out hn20 HCB.out (by repeat first | exact (R_C HO7.out) | with_reducible refine ca_ ?_ _ | with_reducible refine cn_ ?_ _ | with_reducible refine cd_ ?_) (R_cap HO7.out) (by decide)).mono ?_
      rw [serveI_eq HX0.out ranksD cash (by decide) HCB.out, HFIN.out]
      rintro e w5 ⟨v5_, rfl, ho, hb⟩
      have HO9 := am_ (Kd.R_lower ho (show w.heap.size ≤ _ from below_size (by repeat first | (with_reducible first | exact HB.out | apply ba_ | apply bn_ | apply bd_) | exact HB.out)))
      have n_ := am_ (below_step (by repeat first | (with_reducible first | exact HB.out | apply ba_ | apply bn_ | apply bd_) | exact HB.out) hb)
      clear HB ho hb
      have HB := n_
      clear n_
      go_wp2
      go_ret3
      exact ⟨_, rfl, (by (with_reducible repeat first | apply ra_ | apply rn_ | apply rd_); exact HO9.out), (by repeat first | (with_reducible first | exact HB.out | apply ba_ | apply bn_ | apply bd_) | exact HB.out)⟩
    · rw [decide_eq_false hc] at hw
      have HW := am_ hw
      rw [distA_no (fun q => hc q.2)]
      clear hv hw g hc
      go_enter Try.func40, Try.ntmps40
      go_wp2_with fail
      refine (impl_IsValidTranches.calls kv A0 c0 xs true _ (by repeat first | exact (Kd.C_below HR0.out HB.out) | with_reducible refine ca_ ?_ _ | with_reducible refine cn_ ?_ _ | with_reducible refine cd_ ?_) HC0.out HV.out).mono ?_
      rintro e w1 ⟨rfl, hb⟩
      replace HB := am_ (below_step (by repeat first | (with_reducible first | exact HB.out | apply ba_ | apply bn_ | apply bd_) | exact HB.out) hb); clear hb
      go_wp2_with fail
      refine (impl_within.calls cash 0 1000000000 false _ HW.out).mono ?_
      rintro e w2 ⟨rfl, ⟨q1, rfl⟩⟩
      go_wp2
      go_ret3
      exact ⟨_, rfl, Kd.R_nil _ _ _ _ _, (by repeat first | (with_reducible first | exact HB.out | apply ba_ | apply bn_ | apply bd_) | exact HB.out)⟩
  · rw [show goodT xs = false from by simpa using g] at hv
    have HV := am_ hv
    rw [distA_no (fun q => g q.1)]
    clear hv hw g
    go_enter Try.func40, Try.ntmps40
    go_wp2_with fail
    refine (impl_IsValidTranches.calls kv A0 c0 xs false _ (by repeat first | exact (Kd.C_below HR0.out HB.out) | with_reducible refine ca_ ?_ _ | with_reducible refine cn_ ?_ _ | with_reducible refine cd_ ?_) HC0.out HV.out).mono ?_
    rintro e w1 ⟨rfl, hb⟩
    replace HB := am_ (below_step (by repeat first | (with_reducible first | exact HB.out | apply ba_ | apply bn_ | apply bd_) | exact HB.out) hb); clear hb
    go_wp2
    go_ret3
    exact ⟨_, rfl, Kd.R_nil _ _ _ _ _, (by repeat first | (with_reducible first | exact HB.out | apply ba_ | apply bn_ | apply bd_) | exact HB.out)⟩
theorem spec_c (A0 : Option Addr) (c0 : Nat) (xs : List S49) (cash : Int) (w : World) (hr0 : Kd.C k49 w A0 xs.length xs) (hc0 : xs.length ≤ c0) (ha0 : 0 < xs.length → ∃ b, A0 = some ⟨b, 0, none⟩) (hn : xs.length ≤ 1048576) :
    Calls Try.prog 39 #[.slice A0 xs.length c0, .int .i64 cash] w fun e w' => ∃ v, e = .returned (.tuple #[v, .int .i64 (distA ranksD xs cash).2.1, .bool (distA ranksD xs cash).2.2]) ∧ (Kd.int .i64).R 3 w' w.heap.size (fun _ => True) v (distA ranksD xs cash).1 ∧ Below w.heap.size w w' := allocS_c A0 c0 xs cash w hr0 hc0 hn
theorem impl_c (A0 : Option Addr) (c0 : Nat) (xs : List S49) (cash : Int) (w : World) (hr0 : Kd.C k49 w A0 xs.length xs) (hc0 : xs.length ≤ c0) (ha0 : 0 < xs.length → ∃ b, A0 = some ⟨b, 0, none⟩) (hn : xs.length ≤ 1048576) :
    Calls Try.prog 40 #[.slice A0 xs.length c0, .int .i64 cash] w fun e w' => ∃ v, e = .returned (.tuple #[v, .int .i64 (distA ranksD xs cash).2.1, .bool (distA ranksD xs cash).2.2]) ∧ (Kd.int .i64).R 3 w' w.heap.size (fun _ => True) v (distA ranksD xs cash).1 ∧ Below w.heap.size w w' := allocI_c A0 c0 xs cash w hr0 hc0 hn
theorem flat_Tranche (w : World) (b : Nat) (p q : Nat → Prop) (x : S49) (cs : List Value) (h : k49.M w b p x cs) : k49.M w b q x cs := by
  obtain rfl := k49_openM h
  exact k49_mkM w b q x

set_option maxHeartbeats 16000000 in
set_option maxRecDepth 100000 in
theorem law_c (A0 : Option Addr) (c0 : Nat) (l0 : List S75) (a1 : Int) (w : World) (hr0 : Kd.C k75 w A0 l0.length l0) (hc0 : l0.length ≤ c0) (hi1 : -9223372036854775808 ≤ a1 ∧ a1 ≤ 9223372036854775807) (he0 : ∀ y ∈ l0, (KReads.InI y.f0 ∧ KReads.InI y.f1)) :
    Calls Try.prog 10 #[.slice A0 l0.length c0, .int .i64 a1] w fun e w' => e = .returned (.bool true) ∧ Below w.heap.size w w' := by
  have HR0 := am_ hr0
  have HC0 := am_ hc0
  have HM0 := am_ (Kd.C_max hr0)
  clear hr0 hc0
  by_cases hn0 : l0.length ≤ 1048576
  rotate_left
  · have hn_ := hn0
    have E0 := am_ ((szTrancheS_eq l0 HM0.out).trans (congrArg some (if_neg hn0)))
    clear hn_
    go_enter Try.func10, Try.ntmps10
    go_wp2_with (go_at_call 19; refine (laws_szTrancheS.calls _ _ l0 1048576 _ _ (by repeat (first | exact HR0.out | (with_reducible refine Kd.C_alloc ?_ _) | (with_reducible refine Kd.C_drewN ?_ _) | (with_reducible refine Kd.C_drew ?_))) HC0.out E0.out).mono ?_; rintro e w0_ ⟨rfl, ⟨q, rfl⟩⟩)
    go_ret
    exact ⟨rfl, (by repeat (first | (with_reducible first | exact Below.refl _ _ | apply below_alloc | apply pw_below_drewN | apply below_drew1) | exact Below.refl _ _))⟩
  have E0 := am_ ((szTrancheS_eq l0 HM0.out).trans (congrArg some (if_pos hn0)))
  have cs0 : decide (1048576 - (l0.length : Int) < 0) = false := decide_eq_false (by omega)
  obtain ⟨L0, eL0⟩ : ∃ L_ : List S49, L_ = l0.map cv_Tranche := ⟨_, rfl⟩
  have hv0 : L0.length ≤ 1048576 := by rw [eL0]; simpa using hn0
  have EL0 := am_ eL0
  clear eL0
  have HL0 := am_ (show ((distA ranksD L0 a1).1).length ≤ 1048576 from distA_len ranksD L0 a1 hv0)
  have HB0 := am_ (Below.refl w.heap.size w)
  obtain ⟨kX0, hX0⟩ := roundsOf (toTrancheS_ev l0 hn0)
  rw [← EL0.out] at hX0
  have X0 := am_ hX0
  clear hX0
  obtain ⟨kX1, hX1⟩ := roundsOf (eqIntS_ev (distA ranksD L0 a1).1 (by have h_ := HL0.out; omega))
  have X1 := am_ hX1
  clear hX1
  obtain ⟨kX2, hX2⟩ := roundsOf (eqTrancheS_ev L0 (by have h_ := hv0; omega))
  have X2 := am_ hX2
  clear hX2
  obtain ⟨kX3, hX3⟩ := roundsOf (markTrancheS_ev L0 1 (by omega) (by have h_ := hv0; omega) (by have h_ := hv0; omega))
  obtain ⟨mX3, eX3⟩ : ∃ m_ : Int, m_ = 1 + 2 * ((L0).length : Int) := ⟨_, rfl⟩
  rw [← eX3] at hX3
  obtain ⟨UX3, uX3⟩ : ∃ U_ : List S49, U_ = upS_Tranche (L0).length 1 := ⟨_, rfl⟩
  rw [← uX3] at hX3
  have VX3 := am_ (show UX3.length = (L0).length from by rw [uX3, upS_Tranche_length])
  have ZX3 := am_ uX3
  clear uX3
  have cX3 : decide (mX3 < 0) = false := decide_eq_false (by omega)
  have PX3 := am_ (show 0 ≤ mX3 ∧ mX3 ≤ 1 + 8388608 from by have h_ := hv0; omega)
  have MX3 := am_ eX3
  clear eX3
  have X3 := am_ hX3
  clear hX3
  obtain ⟨kX4, hX4⟩ := roundsOf (markIntS_ev (distA ranksD L0 a1).1 1 (by omega) (by have h_ := HL0.out; omega) (by have h_ := HL0.out; omega))
  obtain ⟨mX4, eX4⟩ : ∃ m_ : Int, m_ = 1 + (((distA ranksD L0 a1).1).length : Int) := ⟨_, rfl⟩
  rw [← eX4] at hX4
  obtain ⟨UX4, uX4⟩ : ∃ U_ : List Int, U_ = upFrom ((distA ranksD L0 a1).1).length 1 := ⟨_, rfl⟩
  rw [← uX4] at hX4
  have VX4 := am_ (show UX4.length = ((distA ranksD L0 a1).1).length from by rw [uX4, upFrom_length])
  have ZX4 := am_ uX4
  clear uX4
  have cX4 : decide (mX4 < 0) = false := decide_eq_false (by omega)
  have PX4 := am_ (show 0 ≤ mX4 ∧ mX4 ≤ 1 + 8388608 from by have h_ := HL0.out; omega)
  have MX4 := am_ eX4
  clear eX4
  have X4 := am_ hX4
  clear hX4
  obtain ⟨kX5, hX5⟩ := roundsOf (heldIntS_ev ((distA ranksD L0 a1).1).length 1 (by omega) (by have h_ := HL0.out; omega) (by have h_ := HL0.out; omega))
  rw [← MX4.out, ← ZX4.out] at hX5
  have X5 := am_ hX5
  clear hX5
  go_enter Try.func10, Try.ntmps10
  go_wp2_with (go_at_call 19; refine (laws_szTrancheS.calls _ _ l0 1048576 _ _ (by repeat (first | exact HR0.out | (with_reducible refine Kd.C_alloc ?_ _) | (with_reducible refine Kd.C_drewN ?_ _) | (with_reducible refine Kd.C_drew ?_))) HC0.out E0.out).mono ?_; rintro e w0_ ⟨rfl, ⟨q, rfl⟩⟩)
  refine (laws_toTrancheS.calls kX0 _ _ l0 _ _ (by repeat (first | exact (Kd.C_below HR0.out HB0.out) | (with_reducible refine Kd.C_alloc ?_ _) | (with_reducible refine Kd.C_drewN ?_ _) | (with_reducible refine Kd.C_drew ?_))) HC0.out X0.out).mono ?_
  rintro e w1 ⟨v, rfl, ho, hb⟩
  have HB1 := am_ (below_step (by repeat (first | (with_reducible first | exact HB0.out | apply below_alloc | apply pw_below_drewN | apply below_drew1) | exact HB0.out)) hb)
  have SZ1 := am_ (show w.heap.size ≤ w1.heap.size from below_size (below_step (by repeat (first | (with_reducible first | exact Below.refl _ _ | apply below_alloc | apply pw_below_drewN | apply below_drew1) | exact Below.refl _ _)) hb))
  have HOt1 := am_ (R_ivw (a := w.heap.size) (b := w.heap.size) ho (below_size (by repeat (first | (with_reducible first | exact Below.refl _ _ | apply below_alloc | apply pw_below_drewN | apply below_drew1) | exact Below.refl _ _))) (below_size (by repeat (first | (with_reducible first | exact HB0.out | apply below_alloc | apply pw_below_drewN | apply below_drew1) | exact HB0.out))))
  obtain ⟨Art1, crt1, ert1⟩ := Kd.R_slice HOt1.out
  subst ert1
  clear ho hb
  go_wp2_with fail
  refine (spec_c _ _ L0 a1 _ (by repeat (first | exact (Kd.R_reads' HOt1.out).2.2 | (with_reducible refine Kd.C_alloc ?_ _) | (with_reducible refine Kd.C_drewN ?_ _) | (with_reducible refine Kd.C_drew ?_))) (Kd.R_reads' HOt1.out).2.1 (fun hp => R_head HOt1.out hp) hv0 ).mono ?_
  rintro e w2 ⟨v, rfl, ho, hb⟩
  have n_ := am_ (Kd.R_below (by (with_reducible repeat (first | apply Kd.R_alloc | apply Kd.R_drewN | apply Kd.R_drew)); exact HOt1.out) hb); clear HOt1; have HOt1 := n_; clear n_
  have HB2 := am_ (below_step (by repeat (first | (with_reducible first | exact HB1.out | apply below_alloc | apply pw_below_drewN | apply below_drew1) | exact HB1.out)) hb)
  have SZ2 := am_ (show w1.heap.size ≤ w2.heap.size from below_size (below_step (by repeat (first | (with_reducible first | exact Below.refl _ _ | apply below_alloc | apply pw_below_drewN | apply below_drew1) | exact Below.refl _ _)) hb))
  have HOw0 := am_ (R_ivw (a := w1.heap.size) (b := w.heap.size) ho (below_size (by repeat (first | (with_reducible first | exact Below.refl _ _ | apply below_alloc | apply pw_below_drewN | apply below_drew1) | exact Below.refl _ _))) (below_size (by repeat (first | (with_reducible first | exact HB1.out | apply below_alloc | apply pw_below_drewN | apply below_drew1) | exact HB1.out))))
  obtain ⟨Arw0, crw0, erw0⟩ := Kd.R_slice HOw0.out
  subst erw0
  clear ho hb
  go_wp2_with fail
  refine (laws_toTrancheS.calls kX0 _ _ l0 _ _ (by repeat (first | exact (Kd.C_below HR0.out HB2.out) | (with_reducible refine Kd.C_alloc ?_ _) | (with_reducible refine Kd.C_drewN ?_ _) | (with_reducible refine Kd.C_drew ?_))) HC0.out X0.out).mono ?_
  rintro e w3 ⟨v, rfl, ho, hb⟩
  have n_ := am_ (Kd.R_below (by (with_reducible repeat (first | apply Kd.R_alloc | apply Kd.R_drewN | apply Kd.R_drew)); exact HOw0.out) hb); clear HOw0; have HOw0 := n_; clear n_
  have HB3 := am_ (below_step (by repeat (first | (with_reducible first | exact HB2.out | apply below_alloc | apply pw_below_drewN | apply below_drew1) | exact HB2.out)) hb)
  have SZ3 := am_ (show w2.heap.size ≤ w3.heap.size from below_size (below_step (by repeat (first | (with_reducible first | exact Below.refl _ _ | apply below_alloc | apply pw_below_drewN | apply below_drew1) | exact Below.refl _ _)) hb))
  have HOx0 := am_ (R_ivw (a := w2.heap.size) (b := w.heap.size) ho (below_size (by repeat (first | (with_reducible first | exact Below.refl _ _ | apply below_alloc | apply pw_below_drewN | apply below_drew1) | exact Below.refl _ _))) (below_size (by repeat (first | (with_reducible first | exact HB2.out | apply below_alloc | apply pw_below_drewN | apply below_drew1) | exact HB2.out))))
  obtain ⟨Arx0, crx0, erx0⟩ := Kd.R_slice HOx0.out
  subst erx0
  clear ho hb
  go_wp2_with fail
  refine (impl_c _ _ L0 a1 _ (by repeat (first | exact (Kd.R_reads' HOx0.out).2.2 | (with_reducible refine Kd.C_alloc ?_ _) | (with_reducible refine Kd.C_drewN ?_ _) | (with_reducible refine Kd.C_drew ?_))) (Kd.R_reads' HOx0.out).2.1 (fun hp => R_head HOx0.out hp) hv0 ).mono ?_
  rintro e w4 ⟨v, rfl, ho, hb⟩
  have n_ := am_ (Kd.R_below (by (with_reducible repeat (first | apply Kd.R_alloc | apply Kd.R_drewN | apply Kd.R_drew)); exact HOw0.out) hb); clear HOw0; have HOw0 := n_; clear n_
  have n_ := am_ (Kd.R_below (by (with_reducible repeat (first | apply Kd.R_alloc | apply Kd.R_drewN | apply Kd.R_drew)); exact HOx0.out) hb); clear HOx0; have HOx0 := n_; clear n_
  have HB4 := am_ (below_step (by repeat (first | (with_reducible first | exact HB3.out | apply below_alloc | apply pw_below_drewN | apply below_drew1) | exact HB3.out)) hb)
  have SZ4 := am_ (show w3.heap.size ≤ w4.heap.size from below_size (below_step (by repeat (first | (with_reducible first | exact Below.refl _ _ | apply below_alloc | apply pw_below_drewN | apply below_drew1) | exact Below.refl _ _)) hb))
  have HOg0 := am_ (R_ivw (a := w3.heap.size) (b := w.heap.size) ho (below_size (by repeat (first | (with_reducible first | exact Below.refl _ _ | apply below_alloc | apply pw_below_drewN | apply below_drew1) | exact Below.refl _ _))) (below_size (by repeat (first | (with_reducible first | exact HB3.out | apply below_alloc | apply pw_below_drewN | apply below_drew1) | exact HB3.out))))
  obtain ⟨Arg0, crg0, erg0⟩ := Kd.R_slice HOg0.out
  subst erg0
  clear ho hb
  go_wp2_with fail
  refine (laws_eqIntS.calls kX1 _ _ (distA ranksD L0 a1).1 _ _ (distA ranksD L0 a1).1 true _ (by repeat (first | exact (Kd.R_reads' HOg0.out).2.2 | (with_reducible refine Kd.C_alloc ?_ _) | (with_reducible refine Kd.C_drewN ?_ _) | (with_reducible refine Kd.C_drew ?_))) (Kd.R_reads' HOg0.out).2.1 (by repeat (first | exact (Kd.R_reads' HOw0.out).2.2 | (with_reducible refine Kd.C_alloc ?_ _) | (with_reducible refine Kd.C_drewN ?_ _) | (with_reducible refine Kd.C_drew ?_))) (Kd.R_reads' HOw0.out).2.1 X1.out).mono ?_
  rintro e w5 ⟨rfl, hb0⟩
  have hb := db_ hb0
  clear hb0
  have n_ := am_ (Kd.R_below (by (with_reducible repeat (first | apply Kd.R_alloc | apply Kd.R_drewN | apply Kd.R_drew)); exact HOw0.out) hb); clear HOw0; have HOw0 := n_; clear n_
  have n_ := am_ (Kd.R_below (by (with_reducible repeat (first | apply Kd.R_alloc | apply Kd.R_drewN | apply Kd.R_drew)); exact HOx0.out) hb); clear HOx0; have HOx0 := n_; clear n_
  have n_ := am_ (Kd.R_below (by (with_reducible repeat (first | apply Kd.R_alloc | apply Kd.R_drewN | apply Kd.R_drew)); exact HOg0.out) hb); clear HOg0; have HOg0 := n_; clear n_
  have HB5 := am_ (below_step (by repeat (first | (with_reducible first | exact HB4.out | apply below_alloc | apply pw_below_drewN | apply below_drew1) | exact HB4.out)) hb)
  have SZ5 := am_ (show w4.heap.size ≤ w5.heap.size from below_size (below_step (by repeat (first | (with_reducible first | exact Below.refl _ _ | apply below_alloc | apply pw_below_drewN | apply below_drew1) | exact Below.refl _ _)) hb))
  clear hb
  go_wp2_with fail
  refine (laws_toTrancheS.calls kX0 _ _ l0 _ _ (by repeat (first | exact (Kd.C_below HR0.out HB5.out) | (with_reducible refine Kd.C_alloc ?_ _) | (with_reducible refine Kd.C_drewN ?_ _) | (with_reducible refine Kd.C_drew ?_))) HC0.out X0.out).mono ?_
  rintro e w6 ⟨v, rfl, ho, hb⟩
  have n_ := am_ (Kd.R_below (by (with_reducible repeat (first | apply Kd.R_alloc | apply Kd.R_drewN | apply Kd.R_drew)); exact HOw0.out) hb); clear HOw0; have HOw0 := n_; clear n_
  have n_ := am_ (Kd.R_below (by (with_reducible repeat (first | apply Kd.R_alloc | apply Kd.R_drewN | apply Kd.R_drew)); exact HOx0.out) hb); clear HOx0; have HOx0 := n_; clear n_
  have n_ := am_ (Kd.R_below (by (with_reducible repeat (first | apply Kd.R_alloc | apply Kd.R_drewN | apply Kd.R_drew)); exact HOg0.out) hb); clear HOg0; have HOg0 := n_; clear n_
  have HB6 := am_ (below_step (by repeat (first | (with_reducible first | exact HB5.out | apply below_alloc | apply pw_below_drewN | apply below_drew1) | exact HB5.out)) hb)
  have SZ6 := am_ (show w5.heap.size ≤ w6.heap.size from below_size (below_step (by repeat (first | (with_reducible first | exact Below.refl _ _ | apply below_alloc | apply pw_below_drewN | apply below_drew1) | exact Below.refl _ _)) hb))
  have HOt2 := am_ (R_ivw (a := w5.heap.size) (b := w.heap.size) ho (below_size (by repeat (first | (with_reducible first | exact Below.refl _ _ | apply below_alloc | apply pw_below_drewN | apply below_drew1) | exact Below.refl _ _))) (below_size (by repeat (first | (with_reducible first | exact HB5.out | apply below_alloc | apply pw_below_drewN | apply below_drew1) | exact HB5.out))))
  obtain ⟨Art2, crt2, ert2⟩ := Kd.R_slice HOt2.out
  subst ert2
  clear ho hb
  go_wp2_with fail
  refine (laws_eqTrancheS.calls kX2 _ _ L0 _ _ L0 true _ (by repeat (first | exact (Kd.R_reads' HOx0.out).2.2 | (with_reducible refine Kd.C_alloc ?_ _) | (with_reducible refine Kd.C_drewN ?_ _) | (with_reducible refine Kd.C_drew ?_))) (Kd.R_reads' HOx0.out).2.1 (by repeat (first | exact (Kd.R_reads' HOt2.out).2.2 | (with_reducible refine Kd.C_alloc ?_ _) | (with_reducible refine Kd.C_drewN ?_ _) | (with_reducible refine Kd.C_drew ?_))) (Kd.R_reads' HOt2.out).2.1 X2.out).mono ?_
  rintro e w7 ⟨rfl, hb⟩
  have n_ := am_ (Kd.R_below (by (with_reducible repeat (first | apply Kd.R_alloc | apply Kd.R_drewN | apply Kd.R_drew)); exact HOw0.out) hb); clear HOw0; have HOw0 := n_; clear n_
  have n_ := am_ (Kd.R_below (by (with_reducible repeat (first | apply Kd.R_alloc | apply Kd.R_drewN | apply Kd.R_drew)); exact HOx0.out) hb); clear HOx0; have HOx0 := n_; clear n_
  have n_ := am_ (Kd.R_below (by (with_reducible repeat (first | apply Kd.R_alloc | apply Kd.R_drewN | apply Kd.R_drew)); exact HOg0.out) hb); clear HOg0; have HOg0 := n_; clear n_
  have n_ := am_ (Kd.R_below (by (with_reducible repeat (first | apply Kd.R_alloc | apply Kd.R_drewN | apply Kd.R_drew)); exact HOt2.out) hb); clear HOt2; have HOt2 := n_; clear n_
  have HB7 := am_ (below_step (by repeat (first | (with_reducible first | exact HB6.out | apply below_alloc | apply pw_below_drewN | apply below_drew1) | exact HB6.out)) hb)
  have SZ7 := am_ (show w6.heap.size ≤ w7.heap.size from below_size (below_step (by repeat (first | (with_reducible first | exact Below.refl _ _ | apply below_alloc | apply pw_below_drewN | apply below_drew1) | exact Below.refl _ _)) hb))
  clear hb
  go_wp2_with fail
  refine (laws_markTrancheS.calls kX3 (Iv w2.heap.size w3.heap.size) _ L0 1 _ _ w _ (by repeat (first | (with_reducible first | exact HB7.out | apply below_alloc | apply pw_below_drewN | apply below_drew1) | exact HB7.out)) (by (with_reducible repeat (first | apply Kd.R_alloc | apply Kd.R_drewN | apply Kd.R_drew)); exact HOx0.out) X3.out).mono ?_
  rintro e w8 ⟨rfl, ho, hb, hk⟩
  have n_ := am_ (Kd.R_kept (by (with_reducible repeat (first | apply Kd.R_alloc | apply Kd.R_drewN | apply Kd.R_drew)); exact HOw0.out) hk (fun k h1_ h2_ => by have a_ := h1_.1; have b_ := h1_.2; have c_ := h2_.1; have d_ := h2_.2; have SZ1_ := SZ1.out; have SZ2_ := SZ2.out; have SZ3_ := SZ3.out; have SZ4_ := SZ4.out; have SZ5_ := SZ5.out; have SZ6_ := SZ6.out; have SZ7_ := SZ7.out; omega)); clear HOw0; have HOw0 := n_; clear n_
  have n_ := am_ (Kd.R_kept (by (with_reducible repeat (first | apply Kd.R_alloc | apply Kd.R_drewN | apply Kd.R_drew)); exact HOg0.out) hk (fun k h1_ h2_ => by have a_ := h1_.1; have b_ := h1_.2; have c_ := h2_.1; have d_ := h2_.2; have SZ1_ := SZ1.out; have SZ2_ := SZ2.out; have SZ3_ := SZ3.out; have SZ4_ := SZ4.out; have SZ5_ := SZ5.out; have SZ6_ := SZ6.out; have SZ7_ := SZ7.out; omega)); clear HOg0; have HOg0 := n_; clear n_
  have HB8 := am_ hb
  have SZ8 := am_ (show w7.heap.size ≤ w8.heap.size from hk.1)
  have n_ := am_ (R_flat flat_Tranche ho HOx0.out.1); clear HOx0; have HOx0 := n_; clear n_
  clear ho hb hk
  go_wp2_with fail
  refine (laws_eqIntS.calls kX1 _ _ (distA ranksD L0 a1).1 _ _ (distA ranksD L0 a1).1 true _ (by repeat (first | exact (Kd.R_reads' HOg0.out).2.2 | (with_reducible refine Kd.C_alloc ?_ _) | (with_reducible refine Kd.C_drewN ?_ _) | (with_reducible refine Kd.C_drew ?_))) (Kd.R_reads' HOg0.out).2.1 (by repeat (first | exact (Kd.R_reads' HOw0.out).2.2 | (with_reducible refine Kd.C_alloc ?_ _) | (with_reducible refine Kd.C_drewN ?_ _) | (with_reducible refine Kd.C_drew ?_))) (Kd.R_reads' HOw0.out).2.1 X1.out).mono ?_
  rintro e w9 ⟨rfl, hb0⟩
  have hb := db_ hb0
  clear hb0
  have n_ := am_ (Kd.R_below (by (with_reducible repeat (first | apply Kd.R_alloc | apply Kd.R_drewN | apply Kd.R_drew)); exact HOw0.out) hb); clear HOw0; have HOw0 := n_; clear n_
  have n_ := am_ (Kd.R_below (by (with_reducible repeat (first | apply Kd.R_alloc | apply Kd.R_drewN | apply Kd.R_drew)); exact HOx0.out) hb); clear HOx0; have HOx0 := n_; clear n_
  have n_ := am_ (Kd.R_below (by (with_reducible repeat (first | apply Kd.R_alloc | apply Kd.R_drewN | apply Kd.R_drew)); exact HOg0.out) hb); clear HOg0; have HOg0 := n_; clear n_
  have HB9 := am_ (below_step (by repeat (first | (with_reducible first | exact HB8.out | apply below_alloc | apply pw_below_drewN | apply below_drew1) | exact HB8.out)) hb)
  have SZ9 := am_ (show w8.heap.size ≤ w9.heap.size from below_size (below_step (by repeat (first | (with_reducible first | exact Below.refl _ _ | apply below_alloc | apply pw_below_drewN | apply below_drew1) | exact Below.refl _ _)) hb))
  clear hb
  go_wp2_with fail
  refine (laws_markIntS.calls kX4 (Iv w3.heap.size w4.heap.size) _ (distA ranksD L0 a1).1 1 _ _ w _ (by repeat (first | (with_reducible first | exact HB9.out | apply below_alloc | apply pw_below_drewN | apply below_drew1) | exact HB9.out)) (by (with_reducible repeat (first | apply Kd.R_alloc | apply Kd.R_drewN | apply Kd.R_drew)); exact HOg0.out) X4.out).mono ?_
  rintro e w10 ⟨rfl, ho, hb, hk⟩
  have n_ := am_ (Kd.R_kept (by (with_reducible repeat (first | apply Kd.R_alloc | apply Kd.R_drewN | apply Kd.R_drew)); exact HOw0.out) hk (fun k h1_ h2_ => by have a_ := h1_.1; have b_ := h1_.2; have c_ := h2_.1; have d_ := h2_.2; have SZ1_ := SZ1.out; have SZ2_ := SZ2.out; have SZ3_ := SZ3.out; have SZ4_ := SZ4.out; have SZ5_ := SZ5.out; have SZ6_ := SZ6.out; have SZ7_ := SZ7.out; have SZ8_ := SZ8.out; have SZ9_ := SZ9.out; omega)); clear HOw0; have HOw0 := n_; clear n_
  have n_ := am_ (Kd.R_kept (by (with_reducible repeat (first | apply Kd.R_alloc | apply Kd.R_drewN | apply Kd.R_drew)); exact HOx0.out) hk (fun k h1_ h2_ => by have a_ := h1_.1; have b_ := h1_.2; have c_ := h2_.1; have d_ := h2_.2; have SZ1_ := SZ1.out; have SZ2_ := SZ2.out; have SZ3_ := SZ3.out; have SZ4_ := SZ4.out; have SZ5_ := SZ5.out; have SZ6_ := SZ6.out; have SZ7_ := SZ7.out; have SZ8_ := SZ8.out; have SZ9_ := SZ9.out; omega)); clear HOx0; have HOx0 := n_; clear n_
  have HB10 := am_ hb
  have SZ10 := am_ (show w9.heap.size ≤ w10.heap.size from hk.1)
  have n_ := am_ (R_flat flat_int ho HOg0.out.1); clear HOg0; have HOg0 := n_; clear n_
  clear ho hb hk
  go_wp2_with fail
  refine calls_of_args (args' := #[.slice Arg0 UX4.length crg0, .int .i64 1]) (by rw [VX4.out]) ?_
  refine (laws_heldIntS.calls kX5 _ _ UX4 1 _ _ (by repeat (first | exact (Kd.R_reads' HOg0.out).2.2 | (with_reducible refine Kd.C_alloc ?_ _) | (with_reducible refine Kd.C_drewN ?_ _) | (with_reducible refine Kd.C_drew ?_))) (by rw [VX4.out]; exact (Kd.R_reads' HOg0.out).2.1) X5.out).mono ?_
  rintro e w11 ⟨rfl, hb0⟩
  have hb := db_ hb0
  clear hb0
  have n_ := am_ (Kd.R_below (by (with_reducible repeat (first | apply Kd.R_alloc | apply Kd.R_drewN | apply Kd.R_drew)); exact HOw0.out) hb); clear HOw0; have HOw0 := n_; clear n_
  have n_ := am_ (Kd.R_below (by (with_reducible repeat (first | apply Kd.R_alloc | apply Kd.R_drewN | apply Kd.R_drew)); exact HOx0.out) hb); clear HOx0; have HOx0 := n_; clear n_
  have n_ := am_ (Kd.R_below (by (with_reducible repeat (first | apply Kd.R_alloc | apply Kd.R_drewN | apply Kd.R_drew)); exact HOg0.out) hb); clear HOg0; have HOg0 := n_; clear n_
  have HB11 := am_ (below_step (by repeat (first | (with_reducible first | exact HB10.out | apply below_alloc | apply pw_below_drewN | apply below_drew1) | exact HB10.out)) hb)
  have SZ11 := am_ (show w10.heap.size ≤ w11.heap.size from below_size (below_step (by repeat (first | (with_reducible first | exact Below.refl _ _ | apply below_alloc | apply pw_below_drewN | apply below_drew1) | exact Below.refl _ _)) hb))
  clear hb
  go_wp2_with fail
  refine (laws_toTrancheS.calls kX0 _ _ l0 _ _ (by repeat (first | exact (Kd.C_below HR0.out HB11.out) | (with_reducible refine Kd.C_alloc ?_ _) | (with_reducible refine Kd.C_drewN ?_ _) | (with_reducible refine Kd.C_drew ?_))) HC0.out X0.out).mono ?_
  rintro e w12 ⟨v, rfl, ho, hb⟩
  have n_ := am_ (Kd.R_below (by (with_reducible repeat (first | apply Kd.R_alloc | apply Kd.R_drewN | apply Kd.R_drew)); exact HOw0.out) hb); clear HOw0; have HOw0 := n_; clear n_
  have n_ := am_ (Kd.R_below (by (with_reducible repeat (first | apply Kd.R_alloc | apply Kd.R_drewN | apply Kd.R_drew)); exact HOx0.out) hb); clear HOx0; have HOx0 := n_; clear n_
  have n_ := am_ (Kd.R_below (by (with_reducible repeat (first | apply Kd.R_alloc | apply Kd.R_drewN | apply Kd.R_drew)); exact HOg0.out) hb); clear HOg0; have HOg0 := n_; clear n_
  have HB12 := am_ (below_step (by repeat (first | (with_reducible first | exact HB11.out | apply below_alloc | apply pw_below_drewN | apply below_drew1) | exact HB11.out)) hb)
  have SZ12 := am_ (show w11.heap.size ≤ w12.heap.size from below_size (below_step (by repeat (first | (with_reducible first | exact Below.refl _ _ | apply below_alloc | apply pw_below_drewN | apply below_drew1) | exact Below.refl _ _)) hb))
  have HOt3 := am_ (R_ivw (a := w11.heap.size) (b := w.heap.size) ho (below_size (by repeat (first | (with_reducible first | exact Below.refl _ _ | apply below_alloc | apply pw_below_drewN | apply below_drew1) | exact Below.refl _ _))) (below_size (by repeat (first | (with_reducible first | exact HB11.out | apply below_alloc | apply pw_below_drewN | apply below_drew1) | exact HB11.out))))
  obtain ⟨Art3, crt3, ert3⟩ := Kd.R_slice HOt3.out
  subst ert3
  clear ho hb
  go_wp2_with fail
  refine (impl_c _ _ L0 a1 _ (by repeat (first | exact (Kd.R_reads' HOt3.out).2.2 | (with_reducible refine Kd.C_alloc ?_ _) | (with_reducible refine Kd.C_drewN ?_ _) | (with_reducible refine Kd.C_drew ?_))) (Kd.R_reads' HOt3.out).2.1 (fun hp => R_head HOt3.out hp) hv0 ).mono ?_
  rintro e w13 ⟨v, rfl, ho, hb⟩
  have n_ := am_ (Kd.R_below (by (with_reducible repeat (first | apply Kd.R_alloc | apply Kd.R_drewN | apply Kd.R_drew)); exact HOw0.out) hb); clear HOw0; have HOw0 := n_; clear n_
  have n_ := am_ (Kd.R_below (by (with_reducible repeat (first | apply Kd.R_alloc | apply Kd.R_drewN | apply Kd.R_drew)); exact HOx0.out) hb); clear HOx0; have HOx0 := n_; clear n_
  have n_ := am_ (Kd.R_below (by (with_reducible repeat (first | apply Kd.R_alloc | apply Kd.R_drewN | apply Kd.R_drew)); exact HOg0.out) hb); clear HOg0; have HOg0 := n_; clear n_
  have n_ := am_ (Kd.R_below (by (with_reducible repeat (first | apply Kd.R_alloc | apply Kd.R_drewN | apply Kd.R_drew)); exact HOt3.out) hb); clear HOt3; have HOt3 := n_; clear n_
  have HB13 := am_ (below_step (by repeat (first | (with_reducible first | exact HB12.out | apply below_alloc | apply pw_below_drewN | apply below_drew1) | exact HB12.out)) hb)
  have SZ13 := am_ (show w12.heap.size ≤ w13.heap.size from below_size (below_step (by repeat (first | (with_reducible first | exact Below.refl _ _ | apply below_alloc | apply pw_below_drewN | apply below_drew1) | exact Below.refl _ _)) hb))
  have HOh0 := am_ (R_ivw (a := w12.heap.size) (b := w.heap.size) ho (below_size (by repeat (first | (with_reducible first | exact Below.refl _ _ | apply below_alloc | apply pw_below_drewN | apply below_drew1) | exact Below.refl _ _))) (below_size (by repeat (first | (with_reducible first | exact HB12.out | apply below_alloc | apply pw_below_drewN | apply below_drew1) | exact HB12.out))))
  obtain ⟨Arh0, crh0, erh0⟩ := Kd.R_slice HOh0.out
  subst erh0
  clear ho hb
  go_wp2_with fail
  refine (laws_eqIntS.calls kX1 _ _ (distA ranksD L0 a1).1 _ _ (distA ranksD L0 a1).1 true _ (by repeat (first | exact (Kd.R_reads' HOh0.out).2.2 | (with_reducible refine Kd.C_alloc ?_ _) | (with_reducible refine Kd.C_drewN ?_ _) | (with_reducible refine Kd.C_drew ?_))) (Kd.R_reads' HOh0.out).2.1 (by repeat (first | exact (Kd.R_reads' HOw0.out).2.2 | (with_reducible refine Kd.C_alloc ?_ _) | (with_reducible refine Kd.C_drewN ?_ _) | (with_reducible refine Kd.C_drew ?_))) (Kd.R_reads' HOw0.out).2.1 X1.out).mono ?_
  rintro e w14 ⟨rfl, hb0⟩
  have hb := db_ hb0
  clear hb0
  have n_ := am_ (Kd.R_below (by (with_reducible repeat (first | apply Kd.R_alloc | apply Kd.R_drewN | apply Kd.R_drew)); exact HOw0.out) hb); clear HOw0; have HOw0 := n_; clear n_
  have n_ := am_ (Kd.R_below (by (with_reducible repeat (first | apply Kd.R_alloc | apply Kd.R_drewN | apply Kd.R_drew)); exact HOx0.out) hb); clear HOx0; have HOx0 := n_; clear n_
  have n_ := am_ (Kd.R_below (by (with_reducible repeat (first | apply Kd.R_alloc | apply Kd.R_drewN | apply Kd.R_drew)); exact HOg0.out) hb); clear HOg0; have HOg0 := n_; clear n_
  have n_ := am_ (Kd.R_below (by (with_reducible repeat (first | apply Kd.R_alloc | apply Kd.R_drewN | apply Kd.R_drew)); exact HOh0.out) hb); clear HOh0; have HOh0 := n_; clear n_
  have HB14 := am_ (below_step (by repeat (first | (with_reducible first | exact HB13.out | apply below_alloc | apply pw_below_drewN | apply below_drew1) | exact HB13.out)) hb)
  have SZ14 := am_ (show w13.heap.size ≤ w14.heap.size from below_size (below_step (by repeat (first | (with_reducible first | exact Below.refl _ _ | apply below_alloc | apply pw_below_drewN | apply below_drew1) | exact Below.refl _ _)) hb))
  clear hb
  go_wp2_with fail
  refine calls_of_args (args' := #[.slice Arg0 UX4.length crg0, .int .i64 1]) (by rw [VX4.out]) ?_
  refine (laws_heldIntS.calls kX5 _ _ UX4 1 _ _ (by repeat (first | exact (Kd.R_reads' HOg0.out).2.2 | (with_reducible refine Kd.C_alloc ?_ _) | (with_reducible refine Kd.C_drewN ?_ _) | (with_reducible refine Kd.C_drew ?_))) (by rw [VX4.out]; exact (Kd.R_reads' HOg0.out).2.1) X5.out).mono ?_
  rintro e w15 ⟨rfl, hb0⟩
  have hb := db_ hb0
  clear hb0
  have n_ := am_ (Kd.R_below (by (with_reducible repeat (first | apply Kd.R_alloc | apply Kd.R_drewN | apply Kd.R_drew)); exact HOw0.out) hb); clear HOw0; have HOw0 := n_; clear n_
  have n_ := am_ (Kd.R_below (by (with_reducible repeat (first | apply Kd.R_alloc | apply Kd.R_drewN | apply Kd.R_drew)); exact HOx0.out) hb); clear HOx0; have HOx0 := n_; clear n_
  have n_ := am_ (Kd.R_below (by (with_reducible repeat (first | apply Kd.R_alloc | apply Kd.R_drewN | apply Kd.R_drew)); exact HOg0.out) hb); clear HOg0; have HOg0 := n_; clear n_
  have n_ := am_ (Kd.R_below (by (with_reducible repeat (first | apply Kd.R_alloc | apply Kd.R_drewN | apply Kd.R_drew)); exact HOh0.out) hb); clear HOh0; have HOh0 := n_; clear n_
  have HB15 := am_ (below_step (by repeat (first | (with_reducible first | exact HB14.out | apply below_alloc | apply pw_below_drewN | apply below_drew1) | exact HB14.out)) hb)
  have SZ15 := am_ (show w14.heap.size ≤ w15.heap.size from below_size (below_step (by repeat (first | (with_reducible first | exact Below.refl _ _ | apply below_alloc | apply pw_below_drewN | apply below_drew1) | exact Below.refl _ _)) hb))
  clear hb
  go_wp2
  go_ret
  exact ⟨rfl, (by repeat (first | (with_reducible first | exact HB15.out | apply below_alloc | apply pw_below_drewN | apply below_drew1) | exact HB15.out))⟩
end Go.Proofs.Ytbnhpkkkijjkkaa.O
