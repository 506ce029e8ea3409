/- Walks of our own, a part of those for the law FnExactRunWaterfall: each function's contract in plain Lean. No condition beyond the bounds that each contract names. -/
import Derived.Test.YtbnhpkkkijjkkaaPureFnExactRunWaterfall
import Derived.Shelf.SlicesE.IndexFunc
import Derived.Shelf.Slices.Clone
import Derived.Shelf.Slices.Turned
import Derived.Sort.LotA
import Derived.Shelf.SlSortCmp.Insertion1
import Derived.Shelf.SlLaysH
import Derived.Shelf.Lays2
import Derived.Shelf.Lays
import Derived.Shelf.SlLaysF
import Derived.Test.YtbnhpkkkijjkkaaOFnExactRunWaterfalla
import Derived.Test.YtbnhpkkkijjkkaaOFnExactRunWaterfallb
namespace Go.Proofs.Ytbnhpkkkijjkkaa.O
open Go.RowKit Go.Proofs.YtbnhpkkkijjkkaaW.PrintWords Go.Proofs.YtbnhpkkkijjkkaaW.PrintLast Go.Proofs.YtbnhpkkkijjkkaaW.PrintMore Go.Proofs.Ytbnhpkkkijjkkaa.PL18D Go.Proofs.Ytbnhpkkkijjkkaa.EvKit Go.Proofs.Ytbnhpkkkijjkkaa.Pure
set_option linter.unusedVariables false
set_option linter.unusedSimpArgs false
attribute [local go_sem] max2_int min2_int max_two min_two max_three min_three max_four min_four
theorem least_c (a b r : Int) (h : (if a < b then a else b) = r) (w : World) : Calls Try.prog 94 #[.int .i64 a, .int .i64 b] w fun e w' => e = .returned (.int .i64 r) ∧ ∃ n, w' = w.drewN n :=
  (spec_l1Least.calls a b r w (by unfold spec_l1Least.f; subst h; split <;> rfl)).mono fun e w' ⟨he, ⟨n, hw⟩⟩ => ⟨he, n, hw⟩
set_option maxHeartbeats 8000000 in
set_option maxRecDepth 100000 in
theorem divide_c (b c : Nat) (ds : List Int) (t : Int) (w : World) (hr : (Kd.int .i64).C w (some ⟨b, 0, none⟩) ds.length ds) (hc : ds.length ≤ c) (hd : ∀ d ∈ ds, 0 ≤ d ∧ d ≤ 1000000000) (ht : 0 ≤ t ∧ t ≤ 1000000000) (hs : t < sumI ds) (hn : ds.length ≤ 20) :
    Calls Try.prog 93 #[.slice (some ⟨b, 0, none⟩) ds.length c, .int .i64 t] w fun e w' => ∃ v, e = .returned v ∧ (Kd.int .i64).R 3 w' w.heap.size (fun _ => True) v (divideA ds t) ∧ Below w.heap.size w w' := by
  have HR := am_ hr
  have HC := am_ hc
  have HD := am_ hd
  have HCL := am_ (cellsOfD hr)
  have hp : 0 < ds.length := by
    cases ds with
    | nil => simp [sumI] at hs; omega
    | cons x y => simp
  have HP := am_ hp
  have hwk := weightsL_ok hd (by omega : 0 < sumI ds)
  have HWK := am_ hwk
  have hsh := shareA_sum ht (fun x q => (hwk.1 x q).1) hwk.2
  have HSH := am_ hsh
  have hct := cutL_fits (shareA t (weightsL ds)) ds (by rw [shareA_length, weightsL_length]) hsh.2 (fun d q => (hd d q).1)
  have HCT := am_ hct
  have HT := am_ ht
  have HDN := am_ (show ∀ d ∈ ds, 0 ≤ d from fun d q => (hd d q).1)
  clear hr hc hd hs hp hwk hsh hct ht
  go_enter Try.func93, Try.ntmps93
  go_wp2_with (((with_reducible refine gate_dst (N := 15) rfl ?_); refine Kd.R_lit (Kd.int .i64) w.heap.size 3 (w0 := w) ?hg (N := 15) ?hd (xs := []) (inner := []) (ok := fun _ => True) (okp := fun _ => True) ?hr ?hp (fun _ hk => hk) trivial (by repeat first | (with_reducible first | exact (Below.refl w.heap.size w) | apply ba_ | apply bn_ | apply bd_) | exact (Below.refl w.heap.size w)) (below_size (by repeat first | (with_reducible first | exact (Below.refl w.heap.size w) | apply ba_ | apply bn_ | apply bd_) | exact (Below.refl w.heap.size w))) (by simp) ?_; (case hd => rfl); (case hg => rfl); (case hr => first | (go_simp; done) | (go_simp; rfl)); (case hp => exact (Reps.none _ _)); intro v1 w1 ho hb hgr hnw); have HO5 := am_ ho; have HB := am_ hb; clear ho hb hgr hnw)
  go_loopw [6, 7] (fun v6 v7 wr => ∃ (pre rest : List Int) (bb : Bool), v7 = .int .i64 pre.length ∧ v6 = .bool bb ∧ Aside0 (ds = pre ++ rest) ∧ Aside0 (bb = pre.any (fun d => decide (1000000 < d))) ∧ Aside0 ((Kd.int .i64).R 3 wr w.heap.size (fun _ => True) v1 []) ∧ Aside0 (Below w.heap.size w wr)) (fun _ v7 _ => ds.length - (intOf v7).toNat)
  case atStart => exact ⟨[], ds, false, rfl, rfl, ⟨rfl⟩, ⟨rfl⟩, ⟨(by (with_reducible repeat first | apply ra_ | apply rn_ | apply rd_); exact HO5.out)⟩, ⟨(by repeat first | (with_reducible first | exact HB.out | apply ba_ | apply bn_ | apply bd_) | exact HB.out)⟩⟩
  case round =>
    clear HO5 HB
    obtain ⟨pre, rest, bb, rfl, rfl, HX, HBB, HO5, HB⟩ := hrel
    cases rest with
    | nil =>
      have hl_ := len_nil HX.out
      have hx_ : ds = pre := by simpa using HX.out
      rw [← hx_] at HBB
      have c1 : decide (pre.length < ds.length) = false := decide_eq_false (by omega)
      have HWM := am_ (weightsL_map ds bb HBB.out)
      clear hl_ hx_ HX HBB
      go_wp2_with fail
      go_loopw [5, 8] (fun v5 v8 wr => ∃ (pre rest : List Int), v8 = .int .i64 pre.length ∧ Aside0 (ds = pre ++ rest) ∧ Aside0 ((Kd.int .i64).R 3 wr w.heap.size (fun _ => True) v5 (pre.map (fun d => if bb = true then (d + 999).tdiv 1000 else d))) ∧ Aside0 (Below w.heap.size w wr)) (fun _ v8 _ => ds.length - (intOf v8).toNat)
      case atStart => exact ⟨[], ds, rfl, ⟨rfl⟩, ⟨(by (with_reducible repeat first | apply ra_ | apply rn_ | apply rd_); exact HO5.out)⟩, ⟨(by repeat first | (with_reducible first | exact HB.out | apply ba_ | apply bn_ | apply bd_) | exact HB.out)⟩⟩
      case round =>
        clear HO5 HB c1
        obtain ⟨pre, rest, rfl, HX, HO5, HB⟩ := hrel
        cases rest with
        | nil =>
          have hl_ := len_nil HX.out
          have hx_ : ds = pre := by simpa using HX.out
          rw [← hx_, ← HWM.out] at HO5
          have c1 : decide (pre.length < ds.length) = false := decide_eq_false (by omega)
          obtain ⟨W5, hW5⟩ : ∃ W5, W5 = weightsL ds := ⟨_, rfl⟩
          have HDF := am_ (show divideA ds t = fillL (t - sumI (cutL (shareA t W5) ds)) (cutL (shareA t W5) ds) ds from by rw [hW5]; rfl)
          have hl5 : W5.length = ds.length := by rw [hW5, weightsL_length]
          rw [← hW5] at HO5 HWK HSH HCT
          have hsl := (shareA_length t W5).trans hl5
          obtain ⟨ks, hks⟩ := roundsOf (specShare_ev HT.out W5 (fun x q => ⟨(HWK.out.1 x q).1, by have := (HWK.out.1 x q).2; omega⟩) HWK.out.2 (by omega))
          obtain ⟨A5, c5, e5⟩ := Kd.R_slice HO5.out
          subst e5
          have HC5 := am_ (R_cap HO5.out)
          have HKS := am_ hks
          obtain ⟨SH, hSH⟩ : ∃ SH, SH = shareA t W5 := ⟨_, rfl⟩
          rw [← hSH] at HDF HSH HCT hsl HKS
          have HSL := am_ hsl
          clear hl_ hx_ HX hW5 hl5 hSH hsl hks HWM
          go_wp2_with fail
          refine (spec_l2Share.calls ks t A5 c5 W5 SH _ (by repeat first | exact (R_C HO5.out) | with_reducible refine ca_ ?_ _ | with_reducible refine cn_ ?_ _ | with_reducible refine cd_ ?_) HC5.out HKS.out).mono ?_
          rintro e w3 ⟨v10_, rfl, ho, hb⟩
          have HO8 := am_ (Kd.R_lower ho (show w.heap.size ≤ _ from below_size (by repeat first | (with_reducible first | exact HB.out | apply ba_ | apply bn_ | apply bd_) | exact HB.out)))
          have n_ := am_ (below_step (by repeat first | (with_reducible first | exact HB.out | apply ba_ | apply bn_ | apply bd_) | exact HB.out) hb)
          clear HB ho hb HO5
          have HB := n_
          clear n_
          obtain ⟨g8, c8, e8, hg8, _, _⟩ := Kd.R_form HO8.out (by have := HSL.out; have := HP.out; omega)
          rw [HSL.out] at e8
          subst e8
          obtain ⟨CUT, hCUT⟩ : ∃ C, C = cutL SH ds := ⟨_, rfl⟩
          have HCUT := am_ hCUT.symm
          rw [← hCUT] at HDF HCT
          obtain ⟨LF, hLF⟩ : ∃ L, L = t - sumI CUT := ⟨_, rfl⟩
          have HLF := am_ (show 0 + (sumI SH - sumI (cutL SH ds)) = LF from by rw [← hCUT, HSH.out.1]; omega)
          have HL0 := am_ (show 0 ≤ LF ∧ LF ≤ t from by have h1 := HCT.out.2; have h2 := HSH.out.1; have h3 := (fits_sum _ _ HCT.out.1).1; rw [hLF]; omega)
          rw [← hLF] at HDF
          have t0 := HT.out.1
          have t1 := HT.out.2
          clear hCUT hLF c1
          go_wp2_with fail
          go_loopw [11, 12] (fun v11 v12 wr => ∃ (dn q dp dq : List Int) (L : Int), v12 = .int .i64 dn.length ∧ v11 = .int .i64 L ∧ Aside0 (ds = dp ++ dq) ∧ Aside0 (dn.length = dp.length) ∧ Aside0 (q.length = dq.length) ∧ Aside0 (∀ x ∈ q, 0 ≤ x ∧ x ≤ 1000000000) ∧ Aside0 (dn ++ cutL q dq = CUT) ∧ Aside0 (L + (sumI q - sumI (cutL q dq)) = LF) ∧ Aside0 (0 ≤ L) ∧ Aside0 ((Kd.int .i64).R 3 wr w.heap.size (fun _ => True) (.slice (some ⟨g8, 0, none⟩) ds.length c8) (dn ++ q)) ∧ Aside0 (Below w.heap.size w wr)) (fun _ v12 _ => ds.length - (intOf v12).toNat)
          case atStart => exact ⟨[], SH, [], ds, 0, rfl, rfl, ⟨rfl⟩, ⟨rfl⟩, HSL, ⟨fun x hx => ⟨HSH.out.2 x hx, by have := sumI_mem SH HSH.out.2 x hx; have := HSH.out.1; omega⟩⟩, ⟨HCUT.out⟩, HLF, ⟨Int.le_refl _⟩, ⟨(by (with_reducible repeat first | apply ra_ | apply rn_ | apply rd_); exact HO8.out)⟩, ⟨(by repeat first | (with_reducible first | exact HB.out | apply ba_ | apply bn_ | apply bd_) | exact HB.out)⟩⟩
          case round =>
            clear HO8 HB
            obtain ⟨dn, q, dp, dq, L, rfl, rfl, HX, HNL, HQL, HQB, HCU, HLL, HLT, HO8, HB⟩ := hrel
            cases dq with
            | nil =>
              obtain rfl : q = [] := List.length_eq_zero_iff.mp HQL.out
              have hx_ : ds = dp := by simpa using HX.out
              have hdn : dn = CUT := by simpa [cutL] using HCU.out
              have hL : L = LF := by have := HLL.out; simpa [cutL, sumI] using this
              subst hL
              have HO9 := am_ (show (Kd.int .i64).R 3 wr w.heap.size (fun _ => True) (.slice (some ⟨g8, 0, none⟩) ds.length c8) CUT from by
                have h := HO8.out
                rw [List.append_nil, hdn] at h
                exact h)
              have HKL := am_ (show dn.length = ds.length from by rw [HNL.out, hx_])
              have c1 : decide (dn.length < ds.length) = false := decide_eq_false (by have := HKL.out; omega)
              have c2 : ¬ dn.length < ds.length := by have := HKL.out; omega
              have l0 := HL0.out.1
              have l1 := HL0.out.2
              have HFT := am_ HCT.out.1
              clear hx_ hdn HO8 HX HNL HQL HQB HCU HLL HLT HLF
              go_wp2_with fail
              go_loopw [11, 13] (fun v11 v13 wr => ∃ (dn q dp dq : List Int) (L2 : Int), v13 = .int .i64 dn.length ∧ v11 = .int .i64 L2 ∧ Aside0 (ds = dp ++ dq) ∧ Aside0 (dn.length = dp.length) ∧ Aside0 (Fits q dq) ∧ Aside0 (dn ++ fillL L2 q dq = divideA ds t) ∧ Aside0 (0 ≤ L2 ∧ L2 ≤ t) ∧ Aside0 ((Kd.int .i64).R 3 wr w.heap.size (fun _ => True) (.slice (some ⟨g8, 0, none⟩) ds.length c8) (dn ++ q)) ∧ Aside0 (Below w.heap.size w wr)) (fun _ v13 _ => ds.length - (intOf v13).toNat)
              case atStart => exact ⟨[], CUT, [], ds, L, rfl, rfl, ⟨rfl⟩, ⟨rfl⟩, HFT, ⟨HDF.out.symm⟩, ⟨l0, l1⟩, ⟨(by (with_reducible repeat first | apply ra_ | apply rn_ | apply rd_); exact HO9.out)⟩, ⟨(by repeat first | (with_reducible first | exact HB.out | apply ba_ | apply bn_ | apply bd_) | exact HB.out)⟩⟩
              case round =>
                clear HO9 HB l0 l1 HKL c1 c2
                obtain ⟨dn, q, dp, dq, L2, rfl, rfl, HX, HNL, HFT2, HFL, HLB, HO8, HB⟩ := hrel
                cases dq with
                | nil =>
                  cases q with
                  | cons o q2 => exact HFT2.out.elim
                  | nil =>
                    have hx_ : ds = dp := by simpa using HX.out
                    have HO9 := am_ (show (Kd.int .i64).R 3 wr w.heap.size (fun _ => True) (.slice (some ⟨g8, 0, none⟩) ds.length c8) (divideA ds t) from by
                      have h := HO8.out
                      have e : dn ++ [] = divideA ds t := HFL.out
                      rw [e] at h
                      exact h)
                    have c1 : decide (dn.length < ds.length) = false := decide_eq_false (by have := HNL.out; rw [hx_]; omega)
                    clear hx_ HO8 HX HNL HFT2 HFL
                    go_wp2
                    go_ret
                    exact ⟨_, rfl, (by (with_reducible repeat first | apply ra_ | apply rn_ | apply rd_); exact HO9.out), (by repeat first | (with_reducible first | exact HB.out | apply ba_ | apply bn_ | apply bd_) | exact HB.out)⟩
                | cons d dq2 =>
                  cases q with
                  | nil => exact HFT2.out.elim
                  | cons o q2 =>
                    have hl := len_cons HX.out
                    have hpl : (dn.length : Int) < ds.length := by have := HNL.out; omega
                    have hd := HD.out d (by rw [HX.out]; simp)
                    have ho := HFT2.out.1
                    have HFT3 := am_ HFT2.out.2
                    have hcx := HCL.out dn.length (by omega)
                    rw [show ds.getD dn.length 0 = d from by rw [HX.out, HNL.out]; simp] at hcx
                    rw [Nat.zero_add] at hcx
                    replace hcx := (HB.out.cell (World.block_lt_of_cell? w _ hcx)).trans hcx
                    have hy8 : wr.cell? ⟨g8, dn.length, none⟩ = some (.int .i64 o) := by
                      have h := (Kd.R_celln 0 HO8.out (dn.length : Int) (by omega) hpl).1
                      rw [Int.toNat_natCast] at h
                      rw [h]
                      exact congrArg (fun z => some (Value.int .i64 z)) (getD_mid dn o q2)
                    have hf8 := (Kd.R_celln 0 HO8.out (dn.length : Int) (by omega) hpl).2
                    rw [Int.toNat_natCast] at hf8
                    have lb0 := HLB.out.1
                    have lb1 := HLB.out.2
                    obtain ⟨mv, hmv⟩ : ∃ mv, mv = (if L2 < d - o then L2 else d - o) := ⟨_, rfl⟩
                    have HLC := am_ (least_c L2 (d - o) mv hmv.symm)
                    have m0 : 0 ≤ mv := by rw [hmv]; split <;> omega
                    have m1 : mv ≤ L2 := by rw [hmv]; split <;> omega
                    have m2 : o + mv ≤ d := by rw [hmv]; split <;> omega
                    have o0 := ho.1
                    have o1 := ho.2
                    have d1 := hd.2
                    have hfl := HFL.out
                    rw [fillL, ← hmv, ← List.singleton_append, ← List.append_assoc] at hfl
                    have HFL2 := am_ hfl
                    have c1 : decide (dn.length < ds.length) = true := decide_eq_true (by omega)
                    have p0 : (0 : Int) ≤ (dn.length : Int) := by omega
                    have tn : (dn.length : Int).toNat = dn.length := Int.toNat_natCast _
                    have HST := am_ (set_mid dn o (o + mv) q2)
                    have HSX := am_ (snoc HX.out)
                    clear hl hd ho hmv hfl
                    go_wp2_with fail
                    go_quiet ((go_at_call 94; exact Calls.quiet_of (HLC.out _)))
                    go_wp2
                    have hp9 := Kd.R_putn HO8.out (dn.length : Int) (o + mv)
                    rw [Int.toNat_natCast, HST.out] at hp9
                    have HO9 := am_ hp9
                    have HB9 := am_ (below_set (j := dn.length) (v := .int .i64 (o + mv)) HB.out hg8)
                    clear hp9
                    go_roundw
                    case rel => exact ⟨dn ++ [o + mv], q2, dp ++ [d], dq2, L2 - mv, by rw [len_snoc], by go_num, HSX, ⟨by rw [List.length_append, List.length_append, HNL.out]; rfl⟩, HFT3, HFL2, ⟨by omega, by omega⟩, ⟨(by (with_reducible repeat first | apply ra_ | apply rn_ | apply rd_); exact HO9.out)⟩, ⟨(by repeat first | (with_reducible first | exact HB.out | apply ba_ | apply bn_ | apply bd_ | refine below_set ?_ hg8) | exact HB.out)⟩⟩
                    case measure => simp [intOf]; omega
            | cons d dq2 =>
              cases q with
              | nil => exact absurd HQL.out (by simp)
              | cons o q2 =>
                have hl := len_cons HX.out
                have hpl : (dn.length : Int) < ds.length := by have := HNL.out; omega
                have hd := HD.out d (by rw [HX.out]; simp)
                have ho := HQB.out o List.mem_cons_self
                have hcx := HCL.out dn.length (by omega)
                rw [show ds.getD dn.length 0 = d from by rw [HX.out, HNL.out]; simp] at hcx
                rw [Nat.zero_add] at hcx
                replace hcx := (HB.out.cell (World.block_lt_of_cell? w _ hcx)).trans hcx
                have hy8 : wr.cell? ⟨g8, dn.length, none⟩ = some (.int .i64 o) := by
                  have h := (Kd.R_celln 0 HO8.out (dn.length : Int) (by omega) hpl).1
                  rw [Int.toNat_natCast] at h
                  rw [h]
                  exact congrArg (fun z => some (Value.int .i64 z)) (getD_mid dn o q2)
                have hf8 := (Kd.R_celln 0 HO8.out (dn.length : Int) (by omega) hpl).2
                rw [Int.toNat_natCast] at hf8
                have d0 := hd.1
                have d1 := hd.2
                have o0 := ho.1
                have o1 := ho.2
                have l0 := HLT.out
                have hss := cutL_same q2 dq2 (by have := HQL.out; simpa using this) (fun x hx => HDN.out x (by rw [HX.out]; simp [hx])) (fun x hx => (HQB.out x (List.mem_cons_of_mem _ hx)).1)
                have hlf := HL0.out.2
                have hll := HLL.out
                rw [cutL, sumI, sumI] at hll
                have hcu := HCU.out
                rw [cutL] at hcu
                have HSX := am_ (snoc HX.out)
                have HN2 := am_ (show ∀ x : Int, (dn ++ [x]).length = (dp ++ [d]).length from fun x => by rw [List.length_append, List.length_append, HNL.out]; rfl)
                have HQ2 := am_ (show q2.length = dq2.length from by have := HQL.out; simpa using this)
                have c1 : decide (dn.length < ds.length) = true := decide_eq_true (by omega)
                have p0 : (0 : Int) ≤ (dn.length : Int) := by omega
                have tn : (dn.length : Int).toNat = dn.length := Int.toNat_natCast _
                by_cases hdo : d < o
                · rw [if_pos hdo] at hll
                  rw [if_pos hdo, ← List.singleton_append, ← List.append_assoc] at hcu
                  have HCU2 := am_ hcu
                  have HLL2 := am_ (show L + o - d + (sumI q2 - sumI (cutL q2 dq2)) = LF from by omega)
                  have l2 : L + o - d ≤ 1000000000 := by have := HLL2.out; omega
                  have l3 : 0 ≤ L + o - d := by omega
                  have l4 : L ≤ 1000000000 := by omega
                  have c2 : decide (d < o) = true := decide_eq_true hdo
                  have HST := am_ (set_mid dn o d q2)
                  clear hl hd ho hss hll hcu
                  go_wp2_with fail
                  go_quiet (fail)
                  go_wp2_with fail
                  go_quiet (fail)
                  go_wp2
                  have hp9 := Kd.R_putn HO8.out (dn.length : Int) d
                  rw [Int.toNat_natCast, HST.out] at hp9
                  have HO9 := am_ hp9
                  have HB9 := am_ (below_set (j := dn.length) (v := .int .i64 d) HB.out hg8)
                  clear hp9
                  go_roundw
                  case rel => exact ⟨dn ++ [d], q2, dp ++ [d], dq2, L + o - d, by rw [len_snoc], by go_num, HSX, ⟨HN2.out _⟩, HQ2, ⟨fun x hx => HQB.out x (List.mem_cons_of_mem _ hx)⟩, HCU2, HLL2, ⟨by omega⟩, ⟨(by (with_reducible repeat first | apply ra_ | apply rn_ | apply rd_); exact HO9.out)⟩, ⟨(by repeat first | (with_reducible first | exact HB.out | apply ba_ | apply bn_ | apply bd_ | refine below_set ?_ hg8) | exact HB.out)⟩⟩
                  case measure => simp [intOf]; omega
                · rw [if_neg hdo] at hll
                  rw [if_neg hdo, ← List.singleton_append, ← List.append_assoc] at hcu
                  have HCU2 := am_ hcu
                  have HLL2 := am_ (show L + (sumI q2 - sumI (cutL q2 dq2)) = LF from by omega)
                  have c2 : decide (d < o) = false := decide_eq_false hdo
                  have HO9 := am_ (show (Kd.int .i64).R 3 wr w.heap.size (fun _ => True) (.slice (some ⟨g8, 0, none⟩) ds.length c8) ((dn ++ [o]) ++ q2) from by rw [List.append_assoc]; exact HO8.out)
                  clear hl hd ho hss hll hcu
                  go_wp2_with fail
                  go_quiet (fail)
                  go_wp2
                  go_roundw
                  case rel => exact ⟨dn ++ [o], q2, dp ++ [d], dq2, L, by rw [len_snoc], rfl, HSX, ⟨HN2.out _⟩, HQ2, ⟨fun x hx => HQB.out x (List.mem_cons_of_mem _ hx)⟩, HCU2, HLL2, HLT, ⟨(by (with_reducible repeat first | apply ra_ | apply rn_ | apply rd_); exact HO9.out)⟩, ⟨(by repeat first | (with_reducible first | exact HB.out | apply ba_ | apply bn_ | apply bd_) | exact HB.out)⟩⟩
                  case measure => simp [intOf]; omega
        | cons a tl =>
          have hl := len_cons HX.out
          have hpl : (pre.length : Int) < ds.length := by omega
          have ha := HD.out a (by rw [HX.out]; simp)
          have a0 := ha.1
          have a1 := ha.2
          have u0 := up_nonneg a0
          have u1 := up_le ha
          have e2 : wrap64 ((a + 999).tdiv 1000) = (a + 999).tdiv 1000 := wrapId (by omega)
          have hcx := HCL.out pre.length (by omega)
          rw [show ds.getD pre.length 0 = a from by rw [HX.out]; simp] at hcx
          rw [Nat.zero_add] at hcx
          replace hcx := (HB.out.cell (World.block_lt_of_cell? w _ hcx)).trans hcx
          have c1 : decide (pre.length < ds.length) = true := decide_eq_true (by omega)
          have p0 : (0 : Int) ≤ (pre.length : Int) := by omega
          have tn : (pre.length : Int).toNat = pre.length := Int.toNat_natCast _
          have HSX := am_ (snoc HX.out)
          have hml : (pre.map (fun d => if bb = true then (d + 999).tdiv 1000 else d)).length = pre.length := by simp
          have HMP := am_ (show (pre ++ [a]).map (fun d => if bb = true then (d + 999).tdiv 1000 else d) = pre.map (fun d => if bb = true then (d + 999).tdiv 1000 else d) ++ [if bb = true then (a + 999).tdiv 1000 else a] from by simp)
          obtain ⟨MP, hMP⟩ : ∃ M, M = pre.map (fun d => if bb = true then (d + 999).tdiv 1000 else d) := ⟨_, rfl⟩
          rw [← hMP] at HMP HO5 hml
          obtain ⟨U, hU⟩ : ∃ U, U = (a + 999).tdiv 1000 := ⟨_, rfl⟩
          rw [← hU] at e2 u0 u1 HMP
          have eU := hU.symm
          clear hl ha hMP hU
          cases bb with
          | true =>
            go_wp2_with ((with_reducible refine gate_builtin (b := .append) (xs := #[.tmp 44, .tmp 46]) rfl ?_); at_builtin; refine Kd.R_append (Kd.int .i64) (w0 := w) w.heap.size rfl (.tmp 44) (.tmp 46) 51 3 (.int .i64 0) 8 rfl Try.underlying51 infoI rfl (by decide) (by omega) u5 MP U [.int .i64 U] (fun _ => True) (fun _ => False) rfl rfl ?aP (fun _ hk => hk.elim) ?aF ?aO ?aB ?aS ?aL ?_; (case aP => exact rfl); (case aB => exact (by repeat first | (with_reducible first | exact HB.out | apply ba_ | apply bn_ | apply bd_) | exact HB.out)); (case aF => exact (fun _ _ => trivial)); (case aO => exact (by (with_reducible repeat first | apply ra_ | apply rn_ | apply rd_); exact HO5.out)); (case aS => exact (below_size (by repeat first | (with_reducible first | exact HB.out | apply ba_ | apply bn_ | apply bd_) | exact HB.out))); (case aL => omega); intro v1 w1 ho hb hg hat)
            go_roundw
            case rel => exact ⟨pre ++ [a], tl, by rw [len_snoc], HSX, ⟨by rw [show List.map (fun d => (d + 999).tdiv 1000) (pre ++ [a]) = MP ++ [U] from by simpa using HMP.out]; exact (by (with_reducible repeat first | apply ra_ | apply rn_ | apply rd_); exact ho)⟩, ⟨(by repeat first | (with_reducible first | exact hb | apply ba_ | apply bn_ | apply bd_) | exact hb)⟩⟩
            case measure => simp [intOf]; omega
          | false =>
            go_wp2_with ((with_reducible refine gate_builtin (b := .append) (xs := #[.tmp 44, .tmp 46]) rfl ?_); at_builtin; refine Kd.R_append (Kd.int .i64) (w0 := w) w.heap.size rfl (.tmp 44) (.tmp 46) 51 3 (.int .i64 0) 8 rfl Try.underlying51 infoI rfl (by decide) (by omega) u5 MP a [.int .i64 a] (fun _ => True) (fun _ => False) rfl rfl ?aP (fun _ hk => hk.elim) ?aF ?aO ?aB ?aS ?aL ?_; (case aP => exact rfl); (case aB => exact (by repeat first | (with_reducible first | exact HB.out | apply ba_ | apply bn_ | apply bd_) | exact HB.out)); (case aF => exact (fun _ _ => trivial)); (case aO => exact (by (with_reducible repeat first | apply ra_ | apply rn_ | apply rd_); exact HO5.out)); (case aS => exact (below_size (by repeat first | (with_reducible first | exact HB.out | apply ba_ | apply bn_ | apply bd_) | exact HB.out))); (case aL => omega); intro v1 w1 ho hb hg hat)
            go_roundw
            case rel => exact ⟨pre ++ [a], tl, by rw [len_snoc], HSX, ⟨by rw [HMP.out, if_neg Bool.false_ne_true]; exact (by (with_reducible repeat first | apply ra_ | apply rn_ | apply rd_); exact ho)⟩, ⟨(by repeat first | (with_reducible first | exact hb | apply ba_ | apply bn_ | apply bd_) | exact hb)⟩⟩
            case measure => simp [intOf]; omega
    | cons a tl =>
      have hl := len_cons HX.out
      have hpl : (pre.length : Int) < ds.length := by omega
      have hcx := HCL.out pre.length (by omega)
      rw [show ds.getD pre.length 0 = a from by rw [HX.out]; simp] at hcx
      rw [Nat.zero_add] at hcx
      replace hcx := (HB.out.cell (World.block_lt_of_cell? w _ hcx)).trans hcx
      have c1 : decide (pre.length < ds.length) = true := decide_eq_true (by omega)
      have p0 : (0 : Int) ≤ (pre.length : Int) := by omega
      have tn : (pre.length : Int).toNat = pre.length := Int.toNat_natCast _
      have HSX := am_ (snoc HX.out)
      have HBN := am_ (show (bb || decide (1000000 < a)) = (pre ++ [a]).any (fun d => decide (1000000 < d)) from by rw [HBB.out, List.any_append]; simp)
      clear hl
      cases bb with
      | true =>
        go_wp2
        go_roundw
        case rel => exact ⟨pre ++ [a], tl, true, by rw [len_snoc], rfl, HSX, ⟨by rw [← HBN.out]; rfl⟩, ⟨(by (with_reducible repeat first | apply ra_ | apply rn_ | apply rd_); exact HO5.out)⟩, ⟨(by repeat first | (with_reducible first | exact HB.out | apply ba_ | apply bn_ | apply bd_) | exact HB.out)⟩⟩
        case measure => simp [intOf]; omega
      | false =>
        obtain ⟨q, hq⟩ : ∃ q, q = decide (1000000 < a) := ⟨_, rfl⟩
        have hq2 := hq.symm
        rw [← hq] at HBN
        clear hq
        go_wp2
        go_roundw
        case rel => exact ⟨pre ++ [a], tl, q, by rw [len_snoc], rfl, HSX, ⟨by rw [← HBN.out]; rfl⟩, ⟨(by (with_reducible repeat first | apply ra_ | apply rn_ | apply rd_); exact HO5.out)⟩, ⟨(by repeat first | (with_reducible first | exact HB.out | apply ba_ | apply bn_ | apply bd_) | exact HB.out)⟩⟩
        case measure => simp [intOf]; omega
end Go.Proofs.Ytbnhpkkkijjkkaa.O
