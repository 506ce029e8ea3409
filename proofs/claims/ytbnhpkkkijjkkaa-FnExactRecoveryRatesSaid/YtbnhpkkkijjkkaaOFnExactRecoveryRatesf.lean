/- Walks of our own, a part of those for the law FnExactRecoveryRates: each function's contract in plain Lean. No condition beyond the bounds that each contract names. -/
import Derived.Test.YtbnhpkkkijjkkaaPureFnExactRecoveryRates
import Derived.Shelf.Slices.Clone
import Derived.Shelf.Slices.Turned
import Derived.Sort.LotA
import Derived.Shelf.SlSortCmp.Insertion1
import Derived.Shelf.Lays2
import Derived.Shelf.Lays
import Derived.Shelf.SlLaysF
import Derived.Test.YtbnhpkkkijjkkaaOFnExactRecoveryRatesa
import Derived.Test.YtbnhpkkkijjkkaaOFnExactRecoveryRatesb
import Derived.Test.YtbnhpkkkijjkkaaOFnExactRecoveryRatesc
import Derived.Test.YtbnhpkkkijjkkaaOFnExactRecoveryRatesd
import Derived.Test.YtbnhpkkkijjkkaaOFnExactRecoveryRatese
namespace Go.Proofs.Ytbnhpkkkijjkkaa.O
open Go.RowKit Go.Proofs.YtbnhpkkkijjkkaaW.PrintWords Go.Proofs.YtbnhpkkkijjkkaaW.PrintLast Go.Proofs.YtbnhpkkkijjkkaaW.PrintMore Go.Proofs.Ytbnhpkkkijjkkaa.PL18W Go.Proofs.Ytbnhpkkkijjkkaa.EvKit Go.Proofs.Ytbnhpkkkijjkkaa.Pure
set_option linter.unusedVariables false
set_option linter.unusedSimpArgs false
attribute [local go_sem] max2_int min2_int max_two min_two max_three min_three max_four min_four
def tab45_10_T : Bool × List (List Nat × List Nat) := (true, [([], []), ([], []), ([], []), ([1, 2], [1, 2]), ([3], [3]), ([4], [4]), ([], []), ([], []), ([6, 7], [6, 7]), ([8], [8]), ([9], [9]), ([5, 10], [5, 10]), ([11], [11]), ([0, 12], [0, 12]), ([13, 13, 0, 1, 2, 3, 4, 5, 6, 7, 8, 9, 10, 11, 12, 13], [0, 13])])
def tab45_10_B : List Nat := [0, 0, 0, 6, 14, 30, 0, 0, 192, 448, 960, 2046, 4094, 8191, 16383]
theorem tab45_10_t : rtab .any (opsOf Try.f45 10) = tab45_10_T := by kernel_rfl
theorem tab45_10_b : waitsOk tab45_10_T.2 tab45_10_B = true := by kernel_rfl
set_option maxHeartbeats 16000000 in
set_option maxRecDepth 100000 in
theorem recS_c (A0 : Option Addr) (c0 : Nat) (xs : List S49) (cash : Int) (w : World) (hr0 : Kd.C k49 w A0 xs.length xs) (hc0 : xs.length ≤ c0) (hn : xs.length ≤ 1048576) :
    Calls Try.prog 45 #[.slice A0 xs.length c0, .int .i64 cash] w fun e w' => ∃ v, e = .returned (.tuple #[v, .bool (recA xs cash).2]) ∧ (Kd.int .i64).R 3 w' w.heap.size (fun _ => True) v (recA xs cash).1 ∧ Below w.heap.size w w' := by
  have HB := am_ (Below.refl w.heap.size w)
  have HR0 := am_ hr0
  have HC0 := am_ hc0
  have HDC := am_ (distS_c A0 c0 xs cash w hr0 hc0 hn)
  clear hr0 hc0
  obtain ⟨DA, hDA⟩ : ∃ D, D = distA ranksL xs cash := ⟨_, rfl⟩
  have hok := fun q : (distA ranksL xs cash).2.2 = true => distA_ok q
  have hra : recA xs cash = if DA.2.2 = true then (recL DA.1 xs, true) else ([], false) := by rw [hDA]; rfl
  rw [← hDA] at HDC hok
  clear hDA
  obtain ⟨ps, lf, so⟩ := DA
  simp only at HDC hok hra
  cases so with
  | false =>
    have HRA := am_ (show recA xs cash = ([], false) from hra)
    clear hra hok
    go_enter Try.func45, Try.ntmps45
    go_wp2_with fail
    refine HDC.out.mono ?_
    rintro e w1 ⟨v1, rfl, ho, hb⟩
    clear HB ho
    have HB := am_ hb
    clear hb
    go_wp2_with (((with_reducible refine gate_dst (N := 18) rfl ?_); refine Kd.R_lit (Kd.int .i64) w.heap.size 3 (w0 := w) ?hg (N := 18) ?hd (xs := []) (inner := []) (ok := fun _ => True) (okp := fun _ => True) ?hr ?hp (fun _ hk => hk) trivial (by repeat first | (with_reducible first | exact HB.out | apply ba_ | apply bn_ | apply bd_) | exact HB.out) (below_size (by repeat first | (with_reducible first | exact HB.out | apply ba_ | apply bn_ | apply bd_) | exact HB.out)) (by simp) ?_; (case hd => rfl); (case hg => rfl); (case hr => first | (go_simp; done) | (go_simp; rfl)); (case hp => exact (Reps.none _ _)); intro v1 w1 ho hb hgr hnw); have HO9 := am_ ho; clear HB; have HB := am_ hb; clear ho hb hgr hnw)
    go_ret2
    exact ⟨_, by rw [HRA.out]; rfl, by rw [HRA.out]; exact (by (with_reducible repeat first | apply ra_ | apply rn_ | apply rd_); exact HO9.out), (by repeat first | (with_reducible first | exact HB.out | apply ba_ | apply bn_ | apply bd_) | exact HB.out)⟩
  | true =>
    have HRA := am_ (show recA xs cash = (recL ps xs, true) from hra)
    obtain ⟨hpb, hpl, hgt, _⟩ := hok rfl
    have HPB := am_ hpb
    have HPL := am_ hpl
    have hn20 := (good_parts hgt).2
    have HX0 := am_ (good_parts hgt).1
    clear hra hok hpb hpl hgt
    go_enter Try.func45, Try.ntmps45
    go_wp2_with fail
    refine HDC.out.mono ?_
    rintro e w1 ⟨v6, rfl, ho, hb⟩
    clear HB
    have HO6 := am_ ho
    have HB := am_ hb
    clear ho hb
    obtain ⟨A6, c6, e6⟩ := Kd.R_slice HO6.out
    rw [HPL.out] at e6
    subst e6
    go_wp2_with (((with_reducible refine gate_dst (N := 18) rfl ?_); refine Kd.R_lit (Kd.int .i64) w.heap.size 3 (w0 := w) ?hg (N := 18) ?hd (xs := []) (inner := []) (ok := fun _ => True) (okp := fun _ => True) ?hr ?hp (fun _ hk => hk) trivial (by repeat first | (with_reducible first | exact HB.out | apply ba_ | apply bn_ | apply bd_) | exact HB.out) (below_size (by repeat first | (with_reducible first | exact HB.out | apply ba_ | apply bn_ | apply bd_) | exact HB.out)) (by simp) ?_; (case hd => rfl); (case hg => rfl); (case hr => first | (go_simp; done) | (go_simp; rfl)); (case hp => exact (Reps.none _ _)); intro v1 w1 ho hb hgr hnw); have HO9 := am_ ho; have AP1 := am_ (Ap.new HO6.out hnw); have m_ := am_ (R_same HO6.out hgr); clear HB HO6; have HO6 := m_; have HB := am_ hb; clear m_ ho hb hgr hnw)
    go_loopw [9, 10] (fun v9 vi wr => ∃ (pre rest : List S49) (done : List Int), vi = .int .i64 pre.length ∧ Aside0 (xs = pre ++ rest) ∧ Aside0 (done ++ recL (ps.drop pre.length) rest = recL ps xs) ∧ Aside0 (done.length = pre.length) ∧ Aside0 ((Kd.int .i64).R 3 wr w.heap.size (fun _ => True) (.slice A6 xs.length c6) ps) ∧ Aside0 ((Kd.int .i64).R 3 wr w.heap.size (fun _ => True) v9 done) ∧ Aside0 (Ap (.slice A6 xs.length c6) v9) ∧ Aside0 (Below w.heap.size w wr)) (fun _ vi _ => xs.length - (intOf vi).toNat)
    case atStart => exact ⟨[], xs, [], rfl, ⟨rfl⟩, ⟨rfl⟩, ⟨rfl⟩, ⟨(by (with_reducible repeat first | apply ra_ | apply rn_ | apply rd_); exact HO6.out)⟩, ⟨(by (with_reducible repeat first | apply ra_ | apply rn_ | apply rd_); exact HO9.out)⟩, AP1, ⟨(by repeat first | (with_reducible first | exact HB.out | apply ba_ | apply bn_ | apply bd_) | exact HB.out)⟩⟩
    case round =>
      clear HO6 HO9 AP1 HB
      obtain ⟨pre, rest, done, rfl, HX, HRL, HDL, HO6, HO9, AP1, HB⟩ := hrel
      cases rest with
      | nil =>
        have c1 : decide (pre.length < xs.length) = false := decide_eq_false (by have := len_nil HX.out; omega)
        have HF := am_ (show (Kd.int .i64).R 3 wr w.heap.size (fun _ => True) u9 (recL ps xs) from by
          have h := HRL.out
          have e : recL (ps.drop pre.length) [] = [] := by cases ps.drop pre.length <;> rfl
          rw [e, List.append_nil] at h
          rw [← h]
          exact HO9.out)
        clear HX HRL HDL
        go_wp2
        go_ret2
        exact ⟨_, by rw [HRA.out]; rfl, by rw [HRA.out]; exact (by (with_reducible repeat first | apply ra_ | apply rn_ | apply rd_); exact HF.out), (by repeat first | (with_reducible first | exact HB.out | apply ba_ | apply bn_ | apply bd_) | exact HB.out)⟩
      | cons a t =>
        have hlt := len_cons HX.out
        have hpl : (pre.length : Int) < xs.length := by omega
        obtain ⟨p, pt, hd1, hd2, hgd⟩ := split_at (xs := ps) (k := pre.length) (by have := HPL.out; omega)
        have hpb := HPB.out p (by have h : p ∈ ps.drop pre.length := by rw [hd1]; exact List.mem_cons_self
                                  exact List.mem_of_mem_drop h)
        have hrl := HRL.out
        rw [hd1, recL, ← hd2, ← List.singleton_append, ← List.append_assoc] at hrl
        have HRL2 := am_ (show (done ++ [recOne p a.f1]) ++ recL (ps.drop (pre ++ [a]).length) t = recL ps xs from by rw [List.length_append, List.length_singleton]; exact hrl)
        obtain ⟨ad, e0, hx0, hx1⟩ := at_T49 HR0.out (pre.length : Int) (by omega) hpl
        rw [rd_T49_at HX.out rfl] at hx0 hx1
        simp only [Int.toNat_natCast] at hx0 hx1
        cases e0
        replace hx0 := (HB.out.cell (World.block_lt_of_cell? w _ hx0)).trans hx0
        replace hx1 := (HB.out.cell (World.block_lt_of_cell? w _ hx1)).trans hx1
        obtain ⟨b6, e6⟩ := R_head HO6.out (by have := HPL.out; omega)
        subst e6
        have hy6 : wr.cell? ⟨b6, pre.length, none⟩ = some (.int .i64 p) := by
          have h := (Kd.R_celln 0 HO6.out (pre.length : Int) (by omega) hpl).1
          rw [Int.toNat_natCast] at h
          rw [h]
          exact congrArg (fun z => some (Value.int .i64 z)) hgd
        have Y6 := am_ hy6
        have c2 : decide (pre.length < xs.length) = true := decide_eq_true (by omega)
        have c2' : pre.length < xs.length := by omega
        have HSX := am_ (snoc HX.out)
        have HDL2 := am_ (show ∀ x : Int, (done ++ [x]).length = (pre ++ [a]).length from fun x => by rw [List.length_append, List.length_append, HDL.out]; rfl)
        have hdl : done.length ≤ 20 := by have := HDL.out; omega
        have p0 := hpb.1
        have p1 := hpb.2
        have had := (HX0.out a (by rw [HX.out]; simp)).2
        have tn : (pre.length : Int).toNat = pre.length := Int.toNat_natCast _
        have q0 : (0 : Int) ≤ (pre.length : Int) := by omega
        clear hlt hd1 hd2 hgd hrl hpb
        by_cases hz : a.f1 = 0
        · have z1 : (a.f1 == 0) = true := by simp [hz]
          have z2 : decide (a.f1 = 0) = true := decide_eq_true hz
          have HRO := am_ (show recOne p a.f1 = 1000 from if_pos hz)
          clear hz hy6
          go_wp2_with (((with_reducible refine gate_builtin (b := .append) (xs := #[.tmp 34, .tmp 35]) rfl ?_); at_builtin; refine Kd.R_append (Kd.int .i64) (w0 := w) w.heap.size rfl (.tmp 34) (.tmp 35) 51 3 (.int .i64 0) 8 rfl Try.underlying51 infoI rfl (by decide) (by omega) u9 done 1000 [.int .i64 1000] (fun _ => True) (fun _ => False) rfl rfl ?aP (fun _ hk => hk.elim) ?aF ?aO ?aB ?aS ?aL ?_; (case aP => exact rfl); (case aB => exact (by repeat first | (with_reducible first | exact HB.out | apply ba_ | apply bn_ | apply bd_) | exact HB.out)); (case aF => exact (fun _ _ => trivial)); (case aO => exact (by (with_reducible repeat first | apply ra_ | apply rn_ | apply rd_); exact HO9.out)); (case aS => exact (below_size (by repeat first | (with_reducible first | exact HB.out | apply ba_ | apply bn_ | apply bd_) | exact HB.out))); (case aL => omega); intro v1 w1 ho hb hg hat); have m9 := am_ ho; have m6 := am_ (R_offrow (by (with_reducible repeat first | apply ra_ | apply rn_ | apply rd_); exact HO6.out) hg AP1.out); have ma := am_ (Ap.app AP1.out (by (with_reducible repeat first | apply ra_ | apply rn_ | apply rd_); exact HO6.out) hat); clear HO9 HO6 AP1 HB; have HO9 := m9; have HO6 := m6; have AP1 := ma; have HB := am_ hb; clear m9 m6 ma ho hb hg hat)
          go_roundw
          case rel => exact ⟨pre ++ [a], t, done ++ [1000], by rw [len_snoc], HSX, ⟨by rw [← HRO.out]; exact HRL2.out⟩, ⟨HDL2.out _⟩, ⟨(by (with_reducible repeat first | apply ra_ | apply rn_ | apply rd_); exact HO6.out)⟩, ⟨(by (with_reducible repeat first | apply ra_ | apply rn_ | apply rd_); exact HO9.out)⟩, AP1, ⟨(by repeat first | (with_reducible first | exact HB.out | apply ba_ | apply bn_ | apply bd_) | exact HB.out)⟩⟩
          case measure => simp [intOf]; omega
        · have z1 : (a.f1 == 0) = false := by simp [hz]
          have z2 : decide (a.f1 = 0) = false := decide_eq_false hz
          have hdp : 0 < a.f1 := by omega
          have hrb := rec_bd ⟨p0, p1⟩ hdp
          have e2 : wrap64 ((p * 1000).tdiv a.f1) = (p * 1000).tdiv a.f1 := wrapId (by omega)
          have HRO := am_ (show recOne p a.f1 = (p * 1000).tdiv a.f1 from if_neg hz)
          obtain ⟨q, hq⟩ : ∃ q, q = (p * 1000).tdiv a.f1 := ⟨_, rfl⟩
          have eq_ := hq.symm
          rw [← hq] at e2 HRO hrb
          clear hq
          go_upto_region 10 with (fail)
          have HWQ := am_ (show wrap64 ((wrap64 (p * 1000)).tdiv a.f1) = q from by rw [wrapId (x := p * 1000) (by omega), eq_, e2])
          refine start_ (n := 15) (S := fun w' => w'.cell? ⟨b6, pre.length, none⟩ = some (.int .i64 p) ∧ w'.cell? ⟨(ad.add (pre.length * 2)).block, (ad.add (pre.length * 2)).off + 1, none⟩ = some (.int .i64 a.f1)) (ds := [12, 13]) #[false, false, false, false, false, false, false, false, false, false, false, false, false, false, false] (by kernel_rfl) rfl rfl ⟨hy6, hx1⟩ (fun hHeld => ?_)
          refine with_tabW tab45_10_t tab45_10_b (fun HT_ HW_ => ?_)
          have n_ := am_ (Kd.R_drew HO6.out); clear HO6; have HO6 := n_; clear n_
          have n_ := am_ (Kd.R_drew HO9.out); clear HO9; have HO9 := n_; clear n_
          have n_ := am_ (below_drew1 HB.out); clear HB; have HB := n_; clear n_
          generalize wr.drew = wq_ at HO6 HO9 HB hHeld ⊢
          refine pure_ (i := 0) (N := some 37) (v := ?_) (a' := ?_) #[true, false, false, false, false, false, false, false, false, false, false, false, false, false, false] rfl rfl (any_of HT_.out (by kernel_rfl)) (fun _ _ _ h => h) (Or.inl ⟨by rfl, ?_⟩) ?_ ?_
          rotate_left
          focus (intro w'; go_simp; with_reducible rfl)
          rotate_left
          focus (simp only [Act.put, List.setIfInBounds_toArray, List.set_cons_zero, List.set_cons_succ, i64_w, i32_w]; rfl)
          refine pure_ (i := 1) (N := some 38) (v := ?_) (a' := ?_) #[true, true, false, false, false, false, false, false, false, false, false, false, false, false, false] rfl rfl (any_of HT_.out (by kernel_rfl)) (fun _ _ _ h => h) (Or.inl ⟨by rfl, ?_⟩) ?_ ?_
          rotate_left
          focus (intro w'; go_simp; with_reducible rfl)
          rotate_left
          focus (simp only [Act.put, List.setIfInBounds_toArray, List.set_cons_zero, List.set_cons_succ, i64_w, i32_w]; rfl)
          refine pure_ (i := 2) (N := some 39) (v := ?_) (a' := ?_) #[true, true, true, false, false, false, false, false, false, false, false, false, false, false, false] rfl rfl (any_of HT_.out (by kernel_rfl)) (fun _ _ _ h => h) (Or.inl ⟨by rfl, ?_⟩) ?_ ?_
          rotate_left
          focus (intro w'; go_simp; with_reducible rfl)
          rotate_left
          focus (simp only [Act.put, List.setIfInBounds_toArray, List.set_cons_zero, List.set_cons_succ, i64_w, i32_w]; rfl)
          refine pure_ (i := 3) (N := some 40) (v := ?_) (a' := ?_) #[true, true, true, true, false, false, false, false, false, false, false, false, false, false, false] rfl rfl (any_of HT_.out (by kernel_rfl)) (fun _ _ _ h => h) (Or.inl ⟨by rfl, ?_⟩) ?_ ?_
          rotate_left
          focus (intro w'; go_simp; with_reducible rfl)
          rotate_left
          focus (simp only [Act.put, List.setIfInBounds_toArray, List.set_cons_zero, List.set_cons_succ, i64_w, i32_w]; rfl)
          refine pure_ (i := 6) (N := some 43) (v := ?_) (a' := ?_) #[true, true, true, true, false, false, true, false, false, false, false, false, false, false, false] rfl rfl (any_of HT_.out (by kernel_rfl)) (fun _ _ _ h => h) (Or.inl ⟨by rfl, ?_⟩) ?_ ?_
          rotate_left
          focus (intro w'; go_simp; with_reducible rfl)
          rotate_left
          focus (simp only [Act.put, List.setIfInBounds_toArray, List.set_cons_zero, List.set_cons_succ, i64_w, i32_w]; rfl)
          refine pure_ (i := 7) (N := some 44) (v := ?_) (a' := ?_) #[true, true, true, true, false, false, true, true, false, false, false, false, false, false, false] rfl rfl (any_of HT_.out (by kernel_rfl)) (fun _ _ _ h => h) (Or.inl ⟨by rfl, ?_⟩) ?_ ?_
          rotate_left
          focus (intro w'; go_simp; with_reducible rfl)
          rotate_left
          focus (simp only [Act.put, List.setIfInBounds_toArray, List.set_cons_zero, List.set_cons_succ, i64_w, i32_w]; rfl)
          refine pure_ (i := 8) (N := some 45) (v := ?_) (a' := ?_) #[true, true, true, true, false, false, true, true, true, false, false, false, false, false, false] rfl rfl (any_of HT_.out (by kernel_rfl)) (fun _ _ _ h => h) (Or.inl ⟨by rfl, ?_⟩) ?_ ?_
          rotate_left
          focus (intro w'; go_simp; with_reducible rfl)
          rotate_left
          focus (simp only [Act.put, List.setIfInBounds_toArray, List.set_cons_zero, List.set_cons_succ, i64_w, i32_w]; rfl)
          refine pure_ (i := 9) (N := some 46) (v := ?_) (a' := ?_) #[true, true, true, true, false, false, true, true, true, true, false, false, false, false, false] rfl rfl (any_of HT_.out (by kernel_rfl)) (fun _ _ _ h => h) (Or.inl ⟨by rfl, ?_⟩) ?_ ?_
          rotate_left
          focus (intro w'; go_simp; with_reducible rfl)
          rotate_left
          focus (simp only [Act.put, List.setIfInBounds_toArray, List.set_cons_zero, List.set_cons_succ, i64_w, i32_w]; rfl)
          refine take_ (i := 4) (N := some 41) (v := ?_) (a' := ?_) #[true, true, true, true, true, false, true, true, true, true, false, false, false, false, false] rfl rfl (take_ofW HT_.out HW_.out (by kernel_rfl)) (fun _ _ _ h => h) (Or.inl ⟨by rfl, ?_⟩) hHeld ?_ ?_
          rotate_left
          focus (rintro w' ⟨s0, s1⟩; go_simp; with_reducible rfl)
          rotate_left
          focus (simp only [Act.put, List.setIfInBounds_toArray, List.set_cons_zero, List.set_cons_succ, i64_w, i32_w]; rfl)
          refine pure_ (i := 5) (N := some 42) (v := ?_) (a' := ?_) #[true, true, true, true, true, true, true, true, true, true, false, false, false, false, false] rfl rfl (any_of HT_.out (by kernel_rfl)) (fun _ _ _ h => h) (Or.inl ⟨by rfl, ?_⟩) ?_ ?_
          rotate_left
          focus (intro w'; go_simp; with_reducible rfl)
          rotate_left
          focus (simp only [Act.put, List.setIfInBounds_toArray, List.set_cons_zero, List.set_cons_succ, i64_w, i32_w]; rfl)
          refine take_ (i := 10) (N := some 47) (v := ?_) (a' := ?_) #[true, true, true, true, true, true, true, true, true, true, true, false, false, false, false] rfl rfl (take_ofW HT_.out HW_.out (by kernel_rfl)) (fun _ _ _ h => h) (Or.inl ⟨by rfl, ?_⟩) hHeld ?_ ?_
          rotate_left
          focus (rintro w' ⟨s0, s1⟩; go_simp; with_reducible rfl)
          rotate_left
          focus (simp only [Act.put, List.setIfInBounds_toArray, List.set_cons_zero, List.set_cons_succ, i64_w, i32_w]; rfl)
          refine pure_ (i := 11) (N := some 48) (v := ?_) (a' := ?_) #[true, true, true, true, true, true, true, true, true, true, true, true, false, false, false] rfl rfl (any_of HT_.out (by kernel_rfl)) (fun _ _ _ h => h) (Or.inl ⟨by rfl, ?_⟩) ?_ ?_
          rotate_left
          focus (intro w'; go_simp; with_reducible rfl)
          rotate_left
          focus (simp only [Act.put, List.setIfInBounds_toArray, List.set_cons_zero, List.set_cons_succ, i64_w, i32_w]; rfl)
          refine last_ (i := 12) (N := some 49) #[true, true, true, true, true, true, true, true, true, true, true, true, true, false, false] rfl rfl (one_of HT_.out (by kernel_rfl)) (by decide) (fun K hK => ?_)
          refine value_ (w1 := ?_) (v := ?_) (by rfl) rfl ?_ ?_
          rotate_left 2
          focus (go_simp; constructor; (focus rfl); (focus rfl))
          refine hK.out _ _ ?_
          clear hK K
          refine norm_ (a' := ?_) ?_ ?_
          rotate_left
          focus (show Act.put _ (some 49) _ = _; simp only [Act.put, List.setIfInBounds_toArray, List.set_cons_zero, List.set_cons_succ, i64_w, i32_w]; rfl)
          refine last_ (i := 13) (N := some 50) #[true, true, true, true, true, true, true, true, true, true, true, true, true, true, false] rfl rfl (one_of HT_.out (by kernel_rfl)) (by decide) (fun K hK => ?_)
          (refine Kd.R_append_step (Kd.int .i64) (w0 := w) w.heap.size (by rfl) (.tmp 37) (.tmp 49) 51 3 (.int .i64 0) 8 rfl Try.underlying51 infoI rfl (by decide) (by omega) u9 done (wrap64 ((wrap64 (p * 1000)).tdiv a.f1)) [.int .i64 (wrap64 ((wrap64 (p * 1000)).tdiv a.f1))] (fun _ => True) (fun _ => False) rfl rfl ?aP (fun _ hk => hk.elim) ?aF ?aO ?aB ?aS ?aL ?_; (case aP => exact rfl); (case aB => exact (by repeat first | (with_reducible first | exact HB.out | apply ba_ | apply bn_ | apply bd_) | exact HB.out)); (case aF => exact (fun _ _ => trivial)); (case aO => exact (by (with_reducible repeat first | apply ra_ | apply rn_ | apply rd_); exact HO9.out)); (case aS => exact (below_size (by repeat first | (with_reducible first | exact HB.out | apply ba_ | apply bn_ | apply bd_) | exact HB.out))); (case aL => omega); intro v1 w1 ho hb hg hat); rw [HWQ.out] at ho; have m9 := am_ ho; have m6 := am_ (R_offrow (by (with_reducible repeat first | apply ra_ | apply rn_ | apply rd_); exact HO6.out) hg AP1.out); have ma := am_ (Ap.app AP1.out (by (with_reducible repeat first | apply ra_ | apply rn_ | apply rd_); exact HO6.out) hat); clear HO9 HO6 AP1 HB; have HO9 := m9; have HO6 := m6; have AP1 := ma; have HB := am_ hb; clear m9 m6 ma ho hb hg hat
          refine hK.out _ _ ?_
          clear hK K
          refine norm_ (a' := ?_) ?_ ?_
          rotate_left
          focus (show Act.put _ (some 50) _ = _; simp only [Act.put, List.setIfInBounds_toArray, List.set_cons_zero, List.set_cons_succ, i64_w, i32_w]; rfl)
          refine pure_ (i := 14) (N := some 9) (v := ?_) (a' := ?_) #[true, true, true, true, true, true, true, true, true, true, true, true, true, true, true] rfl rfl (any_of HT_.out (by kernel_rfl)) (fun _ _ _ h => h) (Or.inl ⟨by rfl, ?_⟩) ?_ ?_
          rotate_left
          focus (intro w'; go_simp; with_reducible rfl)
          rotate_left
          focus (simp only [Act.put, List.setIfInBounds_toArray, List.set_cons_zero, List.set_cons_succ, i64_w, i32_w]; rfl)
          refine done_ (done_of HT_.out (by kernel_rfl)) ?_
          go_wp2
          go_roundw
          case rel => exact ⟨pre ++ [a], t, done ++ [q], by rw [len_snoc], HSX, ⟨by rw [← HRO.out]; exact HRL2.out⟩, ⟨HDL2.out _⟩, ⟨(by (with_reducible repeat first | apply ra_ | apply rn_ | apply rd_); exact HO6.out)⟩, ⟨(by (with_reducible repeat first | apply ra_ | apply rn_ | apply rd_); exact HO9.out)⟩, AP1, ⟨(by repeat first | (with_reducible first | exact HB.out | apply ba_ | apply bn_ | apply bd_) | exact HB.out)⟩⟩
          case measure => simp [intOf]; omega
end Go.Proofs.Ytbnhpkkkijjkkaa.O
