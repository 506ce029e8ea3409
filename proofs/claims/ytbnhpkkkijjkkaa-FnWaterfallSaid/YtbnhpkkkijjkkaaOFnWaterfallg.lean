/- Walks of our own, a part of those for the law FnWaterfall: each function's contract in plain Lean. No condition beyond the bounds that each contract names. -/
import Derived.Test.YtbnhpkkkijjkkaaPureFnWaterfall
import Derived.Shelf.Slices.Clone
import Derived.Shelf.Slices.Turned
import Derived.Sort.LotA
import Derived.Shelf.SlSortCmp.Insertion1
import Derived.Shelf.Slices.Reverse
import Derived.Shelf.Lays2
import Derived.Shelf.Lays
import Derived.Shelf.SlLaysF
import Derived.Test.YtbnhpkkkijjkkaaOFnWaterfalla
import Derived.Test.YtbnhpkkkijjkkaaOFnWaterfallb
import Derived.Test.YtbnhpkkkijjkkaaOFnWaterfallc
import Derived.Test.YtbnhpkkkijjkkaaOFnWaterfalld
import Derived.Test.YtbnhpkkkijjkkaaOFnWaterfalle
import Derived.Test.YtbnhpkkkijjkkaaOFnWaterfallf
namespace Go.Proofs.Ytbnhpkkkijjkkaa.O
open Go.RowKit Go.Proofs.YtbnhpkkkijjkkaaW.PrintWords Go.Proofs.YtbnhpkkkijjkkaaW.PrintLast Go.Proofs.YtbnhpkkkijjkkaaW.PrintMore Go.Proofs.Ytbnhpkkkijjkkaa.PL18D Go.Proofs.Ytbnhpkkkijjkkaa.EvKit Go.Proofs.Ytbnhpkkkijjkkaa.Pure
set_option linter.unusedVariables false
set_option linter.unusedSimpArgs false
attribute [local go_sem] max2_int min2_int max_two min_two max_three min_three max_four min_four
def tab44_10_T : Bool × List (List Nat × List Nat) := (true, [([], []), ([], []), ([], []), ([1, 2], [1, 2]), ([3], [3]), ([4], [4]), ([], []), ([6], [6]), ([5, 7], [5, 7]), ([8], [8]), ([0, 9], [0, 9]), ([10, 10, 0, 1, 2, 3, 4, 5, 6, 7, 8, 9, 10], [0, 10])])
def tab44_10_B : List Nat := [0, 0, 0, 6, 14, 30, 0, 64, 254, 510, 1023, 2047]
theorem tab44_10_t : rtab .any (opsOf Try.f44 10) = tab44_10_T := by kernel_rfl
theorem tab44_10_b : waitsOk tab44_10_T.2 tab44_10_B = true := by kernel_rfl
set_option maxHeartbeats 16000000 in
set_option maxRecDepth 100000 in
theorem recI_c (A0 : Option Addr) (c0 : Nat) (xs : List S49) (cash : Int) (w : World) (hr0 : Kd.C k49 w A0 xs.length xs) (hc0 : xs.length ≤ c0) (hn : xs.length ≤ 1048576) :
    Calls Try.prog 44 #[.slice A0 xs.length c0, .int .i64 cash] w fun e w' => ∃ v, e = .returned (.tuple #[v, .bool (recA xs cash).2]) ∧ (Kd.int .i64).R 3 w' w.heap.size (fun _ => True) v (recA xs cash).1 ∧ Below w.heap.size w w' := by
  have HB := am_ (Below.refl w.heap.size w)
  have HR0 := am_ hr0
  have HC0 := am_ hc0
  have HDC := am_ (distI_c A0 c0 xs cash w hr0 hc0 hn)
  clear hr0 hc0
  obtain ⟨DA, hDA⟩ : ∃ D, D = distA ranksL xs cash := ⟨_, rfl⟩
  have hok := fun q : (distA ranksL xs cash).2.2 = true => distA_ok q
  have hra : recA xs cash = if DA.2.2 = true then (recL DA.1 xs, true) else ([], false) := by rw [hDA]; rfl
  rw [← hDA] at HDC hok
  clear hDA
  obtain ⟨ps, lf, so⟩ := DA
  simp only at HDC hok hra
  cases so with
  | false =>
    have HRA := am_ (show recA xs cash = ([], false) from hra)
    clear hra hok
    go_enter Try.func44, Try.ntmps44
    go_wp2_with fail
    refine HDC.out.mono ?_
    rintro e w1 ⟨v1, rfl, ho, hb⟩
    clear HB ho
    have HB := am_ hb
    clear hb
    go_wp2
    go_ret2
    exact ⟨_, by rw [HRA.out]; rfl, by rw [HRA.out]; exact Kd.R_nil _ _ _ _ _, (by repeat first | (with_reducible first | exact HB.out | apply ba_ | apply bn_ | apply bd_) | exact HB.out)⟩
  | true =>
    have HRA := am_ (show recA xs cash = (recL ps xs, true) from hra)
    obtain ⟨hpb, hpl, hgt, _⟩ := hok rfl
    have HPB := am_ hpb
    have HPL := am_ hpl
    have hn20 := (good_parts hgt).2
    have HX0 := am_ (good_parts hgt).1
    clear hra hok hpb hpl hgt
    go_enter Try.func44, Try.ntmps44
    go_wp2_with fail
    refine HDC.out.mono ?_
    rintro e w1 ⟨v6, rfl, ho, hb⟩
    clear HB
    have HO6 := am_ ho
    have HB := am_ hb
    clear ho hb
    obtain ⟨A6, c6, e6⟩ := Kd.R_slice HO6.out
    rw [HPL.out] at e6
    subst e6
    go_wp2_with (((with_reducible refine gate_dst (N := 21) rfl ?_); refine Kd.R_lit (Kd.int .i64) w.heap.size 3 (w0 := w) ?hg (N := 21) ?hd (xs := []) (inner := []) (ok := fun _ => True) (okp := fun _ => True) ?hr ?hp (fun _ hk => hk) trivial (by repeat first | (with_reducible first | exact HB.out | apply ba_ | apply bn_ | apply bd_) | exact HB.out) (below_size (by repeat first | (with_reducible first | exact HB.out | apply ba_ | apply bn_ | apply bd_) | exact HB.out)) (by simp) ?_; (case hd => rfl); (case hg => rfl); (case hr => first | (go_simp; done) | (go_simp; rfl)); (case hp => exact (Reps.none _ _)); intro v1 w1 ho hb hgr hnw); have HO9 := am_ ho; have AP1 := am_ (Ap.new HO6.out hnw); have m_ := am_ (R_same HO6.out hgr); clear HB HO6; have HO6 := m_; have HB := am_ hb; clear m_ ho hb hgr hnw)
    go_loopw [9, 24] (fun v9 vi wr => ∃ (pre rest : List S49) (done : List Int), vi = .int .i64 pre.length ∧ Aside0 (xs = pre ++ rest) ∧ Aside0 (done ++ recL (ps.drop pre.length) rest = recL ps xs) ∧ Aside0 (done.length = pre.length) ∧ Aside0 ((Kd.int .i64).R 3 wr w.heap.size (fun _ => True) (.slice A6 xs.length c6) ps) ∧ Aside0 ((Kd.int .i64).R 3 wr w.heap.size (fun _ => True) v9 done) ∧ Aside0 (Ap (.slice A6 xs.length c6) v9) ∧ Aside0 (Below w.heap.size w wr)) (fun _ vi _ => xs.length - (intOf vi).toNat)
    case atStart => exact ⟨[], xs, [], rfl, ⟨rfl⟩, ⟨rfl⟩, ⟨rfl⟩, ⟨(by (with_reducible repeat first | apply ra_ | apply rn_ | apply rd_); exact HO6.out)⟩, ⟨(by (with_reducible repeat first | apply ra_ | apply rn_ | apply rd_); exact HO9.out)⟩, AP1, ⟨(by repeat first | (with_reducible first | exact HB.out | apply ba_ | apply bn_ | apply bd_) | exact HB.out)⟩⟩
    case round =>
      clear HO6 HO9 AP1 HB
      obtain ⟨pre, rest, done, rfl, HX, HRL, HDL, HO6, HO9, AP1, HB⟩ := hrel
      cases rest with
      | nil =>
        have c1 : decide (pre.length < xs.length) = false := decide_eq_false (by have := len_nil HX.out; omega)
        have HF := am_ (show (Kd.int .i64).R 3 wr w.heap.size (fun _ => True) u9 (recL ps xs) from by
          have h := HRL.out
          have e : recL (ps.drop pre.length) [] = [] := by cases ps.drop pre.length <;> rfl
          rw [e, List.append_nil] at h
          rw [← h]
          exact HO9.out)
        clear HX HRL HDL
        go_wp2
        go_ret2
        exact ⟨_, by rw [HRA.out]; rfl, by rw [HRA.out]; exact (by (with_reducible repeat first | apply ra_ | apply rn_ | apply rd_); exact HF.out), (by repeat first | (with_reducible first | exact HB.out | apply ba_ | apply bn_ | apply bd_) | exact HB.out)⟩
      | cons a t =>
        have hlt := len_cons HX.out
        have hpl : (pre.length : Int) < xs.length := by omega
        obtain ⟨p, pt, hd1, hd2, hgd⟩ := split_at (xs := ps) (k := pre.length) (by have := HPL.out; omega)
        have hpb := HPB.out p (by have h : p ∈ ps.drop pre.length := by rw [hd1]; exact List.mem_cons_self
                                  exact List.mem_of_mem_drop h)
        have hrl := HRL.out
        rw [hd1, recL, ← hd2, ← List.singleton_append, ← List.append_assoc] at hrl
        have HRL2 := am_ (show (done ++ [recOne p a.f1]) ++ recL (ps.drop (pre ++ [a]).length) t = recL ps xs from by rw [List.length_append, List.length_singleton]; exact hrl)
        obtain ⟨ad, e0, hx0, hx1⟩ := at_T49 HR0.out (pre.length : Int) (by omega) hpl
        rw [rd_T49_at HX.out rfl] at hx0 hx1
        simp only [Int.toNat_natCast] at hx0 hx1
        cases e0
        replace hx0 := (HB.out.cell (World.block_lt_of_cell? w _ hx0)).trans hx0
        replace hx1 := (HB.out.cell (World.block_lt_of_cell? w _ hx1)).trans hx1
        obtain ⟨b6, e6⟩ := R_head HO6.out (by have := HPL.out; omega)
        subst e6
        have hy6 : wr.cell? ⟨b6, pre.length, none⟩ = some (.int .i64 p) := by
          have h := (Kd.R_celln 0 HO6.out (pre.length : Int) (by omega) hpl).1
          rw [Int.toNat_natCast] at h
          rw [h]
          exact congrArg (fun z => some (Value.int .i64 z)) hgd
        have Y6 := am_ hy6
        have c2 : decide (pre.length < xs.length) = true := decide_eq_true (by omega)
        have c2' : pre.length < xs.length := by omega
        have HSX := am_ (snoc HX.out)
        have HDL2 := am_ (show ∀ x : Int, (done ++ [x]).length = (pre ++ [a]).length from fun x => by rw [List.length_append, List.length_append, HDL.out]; rfl)
        have hdl : done.length ≤ 20 := by have := HDL.out; omega
        have p0 := hpb.1
        have p1 := hpb.2
        have had := (HX0.out a (by rw [HX.out]; simp)).2
        have tn : (pre.length : Int).toNat = pre.length := Int.toNat_natCast _
        have q0 : (0 : Int) ≤ (pre.length : Int) := by omega
        clear hlt hd1 hd2 hgd hrl hpb
        clear hy6
        go_upto_region 8 with (fail)
        clear hx0 hx1
        obtain ⟨W1, hW1⟩ : ∃ W1, W1 = wr.alloc (.cells #[.int .i64 a.f0, .int .i64 a.f1] 49) := ⟨_, rfl⟩
        have HKK := am_ (show W1.heap[wr.heap.size]? = some (.cells #[.int .i64 a.f0, .int .i64 a.f1] 49 (0, 0)) from by rw [hW1]; exact blk_new wr _)
        have n6 := am_ (show (Kd.int .i64).R 3 W1 w.heap.size (fun _ => True) (.slice (some ⟨b6, 0, none⟩) xs.length c6) ps from by rw [hW1]; exact Kd.R_alloc HO6.out _)
        have n9 := am_ (show (Kd.int .i64).R 3 W1 w.heap.size (fun _ => True) u9 done from by rw [hW1]; exact Kd.R_alloc HO9.out _)
        have nb := am_ (show Below w.heap.size w W1 from by rw [hW1]; exact below_alloc HB.out _)
        have hy6 : W1.cell? ⟨b6, pre.length, none⟩ = some (.int .i64 p) := by rw [hW1]; exact ((below_alloc (Below.refl _ _) _).cell (World.block_lt_of_cell? wr _ Y6.out)).trans Y6.out
        rw [← hW1]
        clear hW1 HO6 HO9 HB
        have HO6 := n6
        have HO9 := n9
        have HB := nb
        clear n6 n9 nb
        generalize wr.heap.size = B at HKK ⊢
        generalize W1 = wr at HKK HO6 HO9 HB hy6 ⊢
        have hk1 := (blk_cell HKK.out 1).trans rfl
        by_cases hz : a.f1 = 0
        · have z1 : (a.f1 == 0) = true := by simp [hz]
          have z2 : decide (a.f1 = 0) = true := decide_eq_true hz
          have HRO := am_ (show recOne p a.f1 = 1000 from if_pos hz)
          clear hz hy6
          go_wp2_with (((with_reducible refine gate_builtin (b := .append) (xs := #[.tmp 32, .tmp 33]) rfl ?_); at_builtin; refine Kd.R_append (Kd.int .i64) (w0 := w) w.heap.size rfl (.tmp 32) (.tmp 33) 51 3 (.int .i64 0) 8 rfl Try.underlying51 infoI rfl (by decide) (by omega) u9 done 1000 [.int .i64 1000] (fun _ => True) (fun _ => False) rfl rfl ?aP (fun _ hk => hk.elim) ?aF ?aO ?aB ?aS ?aL ?_; (case aP => exact rfl); (case aB => exact (by repeat first | (with_reducible first | exact HB.out | apply ba_ | apply bn_ | apply bd_) | exact HB.out)); (case aF => exact (fun _ _ => trivial)); (case aO => exact (by (with_reducible repeat first | apply ra_ | apply rn_ | apply rd_); exact HO9.out)); (case aS => exact (below_size (by repeat first | (with_reducible first | exact HB.out | apply ba_ | apply bn_ | apply bd_) | exact HB.out))); (case aL => omega); intro v1 w1 ho hb hg hat); have m9 := am_ ho; have m6 := am_ (R_offrow (by (with_reducible repeat first | apply ra_ | apply rn_ | apply rd_); exact HO6.out) hg AP1.out); have ma := am_ (Ap.app AP1.out (by (with_reducible repeat first | apply ra_ | apply rn_ | apply rd_); exact HO6.out) hat); clear HO9 HO6 AP1 HB; have HO9 := m9; have HO6 := m6; have AP1 := ma; have HB := am_ hb; clear m9 m6 ma ho hb hg hat)
          go_roundw
          case rel => exact ⟨pre ++ [a], t, done ++ [1000], by rw [len_snoc], HSX, ⟨by rw [← HRO.out]; exact HRL2.out⟩, ⟨HDL2.out _⟩, ⟨(by (with_reducible repeat first | apply ra_ | apply rn_ | apply rd_); exact HO6.out)⟩, ⟨(by (with_reducible repeat first | apply ra_ | apply rn_ | apply rd_); exact HO9.out)⟩, AP1, ⟨(by repeat first | (with_reducible first | exact HB.out | apply ba_ | apply bn_ | apply bd_) | exact HB.out)⟩⟩
          case measure => simp [intOf]; omega
        · have z1 : (a.f1 == 0) = false := by simp [hz]
          have z2 : decide (a.f1 = 0) = false := decide_eq_false hz
          have hdp : 0 < a.f1 := by omega
          have hrb := rec_bd ⟨p0, p1⟩ hdp
          have e2 : wrap64 ((p * 1000).tdiv a.f1) = (p * 1000).tdiv a.f1 := wrapId (by omega)
          have HRO := am_ (show recOne p a.f1 = (p * 1000).tdiv a.f1 from if_neg hz)
          obtain ⟨q, hq⟩ : ∃ q, q = (p * 1000).tdiv a.f1 := ⟨_, rfl⟩
          have eq_ := hq.symm
          rw [← hq] at e2 HRO hrb
          clear hq
          go_upto_region 10 with (fail)
          have HWQ := am_ (show wrap64 ((wrap64 (p * 1000)).tdiv a.f1) = q from by rw [wrapId (x := p * 1000) (by omega), eq_, e2])
          refine start_ (n := 12) (S := fun w' => w'.cell? ⟨b6, pre.length, none⟩ = some (.int .i64 p) ∧ w'.cell? ⟨B, 1, none⟩ = some (.int .i64 a.f1)) (ds := [9, 10]) #[false, false, false, false, false, false, false, false, false, false, false, false] (by kernel_rfl) rfl rfl ⟨hy6, hk1⟩ (fun hHeld => ?_)
          refine with_tabW tab44_10_t tab44_10_b (fun HT_ HW_ => ?_)
          have n_ := am_ (Kd.R_drew HO6.out); clear HO6; have HO6 := n_; clear n_
          have n_ := am_ (Kd.R_drew HO9.out); clear HO9; have HO9 := n_; clear n_
          have n_ := am_ (below_drew1 HB.out); clear HB; have HB := n_; clear n_
          generalize wr.drew = wq_ at HO6 HO9 HB hHeld ⊢
          refine pure_ (i := 0) (N := some 35) (v := ?_) (a' := ?_) #[true, false, false, false, false, false, false, false, false, false, false, false] rfl rfl (any_of HT_.out (by kernel_rfl)) (fun _ _ _ h => h) (Or.inl ⟨by rfl, ?_⟩) ?_ ?_
          rotate_left
          focus (intro w'; go_simp; with_reducible rfl)
          rotate_left
          focus (simp only [Act.put, List.setIfInBounds_toArray, List.set_cons_zero, List.set_cons_succ, i64_w, i32_w]; rfl)
          refine pure_ (i := 1) (N := some 36) (v := ?_) (a' := ?_) #[true, true, false, false, false, false, false, false, false, false, false, false] rfl rfl (any_of HT_.out (by kernel_rfl)) (fun _ _ _ h => h) (Or.inl ⟨by rfl, ?_⟩) ?_ ?_
          rotate_left
          focus (intro w'; go_simp; with_reducible rfl)
          rotate_left
          focus (simp only [Act.put, List.setIfInBounds_toArray, List.set_cons_zero, List.set_cons_succ, i64_w, i32_w]; rfl)
          refine pure_ (i := 2) (N := some 37) (v := ?_) (a' := ?_) #[true, true, true, false, false, false, false, false, false, false, false, false] rfl rfl (any_of HT_.out (by kernel_rfl)) (fun _ _ _ h => h) (Or.inl ⟨by rfl, ?_⟩) ?_ ?_
          rotate_left
          focus (intro w'; go_simp; with_reducible rfl)
          rotate_left
          focus (simp only [Act.put, List.setIfInBounds_toArray, List.set_cons_zero, List.set_cons_succ, i64_w, i32_w]; rfl)
          refine pure_ (i := 3) (N := some 38) (v := ?_) (a' := ?_) #[true, true, true, true, false, false, false, false, false, false, false, false] rfl rfl (any_of HT_.out (by kernel_rfl)) (fun _ _ _ h => h) (Or.inl ⟨by rfl, ?_⟩) ?_ ?_
          rotate_left
          focus (intro w'; go_simp; with_reducible rfl)
          rotate_left
          focus (simp only [Act.put, List.setIfInBounds_toArray, List.set_cons_zero, List.set_cons_succ, i64_w, i32_w]; rfl)
          refine pure_ (i := 6) (N := some 41) (v := ?_) (a' := ?_) #[true, true, true, true, false, false, true, false, false, false, false, false] rfl rfl (any_of HT_.out (by kernel_rfl)) (fun _ _ _ h => h) (Or.inl ⟨by rfl, ?_⟩) ?_ ?_
          rotate_left
          focus (intro w'; go_simp; with_reducible rfl)
          rotate_left
          focus (simp only [Act.put, List.setIfInBounds_toArray, List.set_cons_zero, List.set_cons_succ, i64_w, i32_w]; rfl)
          refine take_ (i := 4) (N := some 39) (v := ?_) (a' := ?_) #[true, true, true, true, true, false, true, false, false, false, false, false] rfl rfl (take_ofW HT_.out HW_.out (by kernel_rfl)) (fun _ _ _ h => h) (Or.inl ⟨by rfl, ?_⟩) hHeld ?_ ?_
          rotate_left
          focus (rintro w' ⟨s0, s1⟩; go_simp; with_reducible rfl)
          rotate_left
          focus (simp only [Act.put, List.setIfInBounds_toArray, List.set_cons_zero, List.set_cons_succ, i64_w, i32_w]; rfl)
          refine pure_ (i := 5) (N := some 40) (v := ?_) (a' := ?_) #[true, true, true, true, true, true, true, false, false, false, false, false] rfl rfl (any_of HT_.out (by kernel_rfl)) (fun _ _ _ h => h) (Or.inl ⟨by rfl, ?_⟩) ?_ ?_
          rotate_left
          focus (intro w'; go_simp; with_reducible rfl)
          rotate_left
          focus (simp only [Act.put, List.setIfInBounds_toArray, List.set_cons_zero, List.set_cons_succ, i64_w, i32_w]; rfl)
          refine take_ (i := 7) (N := some 42) (v := ?_) (a' := ?_) #[true, true, true, true, true, true, true, true, false, false, false, false] rfl rfl (take_ofW HT_.out HW_.out (by kernel_rfl)) (fun _ _ _ h => h) (Or.inl ⟨by rfl, ?_⟩) hHeld ?_ ?_
          rotate_left
          focus (rintro w' ⟨s0, s1⟩; go_simp; with_reducible rfl)
          rotate_left
          focus (simp only [Act.put, List.setIfInBounds_toArray, List.set_cons_zero, List.set_cons_succ, i64_w, i32_w]; rfl)
          refine pure_ (i := 8) (N := some 43) (v := ?_) (a' := ?_) #[true, true, true, true, true, true, true, true, true, false, false, false] rfl rfl (any_of HT_.out (by kernel_rfl)) (fun _ _ _ h => h) (Or.inl ⟨by rfl, ?_⟩) ?_ ?_
          rotate_left
          focus (intro w'; go_simp; with_reducible rfl)
          rotate_left
          focus (simp only [Act.put, List.setIfInBounds_toArray, List.set_cons_zero, List.set_cons_succ, i64_w, i32_w]; rfl)
          refine last_ (i := 9) (N := some 44) #[true, true, true, true, true, true, true, true, true, true, false, false] rfl rfl (one_of HT_.out (by kernel_rfl)) (by decide) (fun K hK => ?_)
          refine value_ (w1 := ?_) (v := ?_) (by rfl) rfl ?_ ?_
          rotate_left 2
          focus (go_simp; constructor; (focus rfl); (focus rfl))
          refine hK.out _ _ ?_
          clear hK K
          refine norm_ (a' := ?_) ?_ ?_
          rotate_left
          focus (show Act.put _ (some 44) _ = _; simp only [Act.put, List.setIfInBounds_toArray, List.set_cons_zero, List.set_cons_succ, i64_w, i32_w]; rfl)
          refine last_ (i := 10) (N := some 45) #[true, true, true, true, true, true, true, true, true, true, true, false] rfl rfl (one_of HT_.out (by kernel_rfl)) (by decide) (fun K hK => ?_)
          (refine Kd.R_append_step (Kd.int .i64) (w0 := w) w.heap.size (by rfl) (.tmp 35) (.tmp 44) 51 3 (.int .i64 0) 8 rfl Try.underlying51 infoI rfl (by decide) (by omega) u9 done (wrap64 ((wrap64 (p * 1000)).tdiv a.f1)) [.int .i64 (wrap64 ((wrap64 (p * 1000)).tdiv a.f1))] (fun _ => True) (fun _ => False) rfl rfl ?aP (fun _ hk => hk.elim) ?aF ?aO ?aB ?aS ?aL ?_; (case aP => exact rfl); (case aB => exact (by repeat first | (with_reducible first | exact HB.out | apply ba_ | apply bn_ | apply bd_) | exact HB.out)); (case aF => exact (fun _ _ => trivial)); (case aO => exact (by (with_reducible repeat first | apply ra_ | apply rn_ | apply rd_); exact HO9.out)); (case aS => exact (below_size (by repeat first | (with_reducible first | exact HB.out | apply ba_ | apply bn_ | apply bd_) | exact HB.out))); (case aL => omega); intro v1 w1 ho hb hg hat); rw [HWQ.out] at ho; have m9 := am_ ho; have m6 := am_ (R_offrow (by (with_reducible repeat first | apply ra_ | apply rn_ | apply rd_); exact HO6.out) hg AP1.out); have ma := am_ (Ap.app AP1.out (by (with_reducible repeat first | apply ra_ | apply rn_ | apply rd_); exact HO6.out) hat); clear HO9 HO6 AP1 HB; have HO9 := m9; have HO6 := m6; have AP1 := ma; have HB := am_ hb; clear m9 m6 ma ho hb hg hat
          refine hK.out _ _ ?_
          clear hK K
          refine norm_ (a' := ?_) ?_ ?_
          rotate_left
          focus (show Act.put _ (some 45) _ = _; simp only [Act.put, List.setIfInBounds_toArray, List.set_cons_zero, List.set_cons_succ, i64_w, i32_w]; rfl)
          refine pure_ (i := 11) (N := some 9) (v := ?_) (a' := ?_) #[true, true, true, true, true, true, true, true, true, true, true, true] rfl rfl (any_of HT_.out (by kernel_rfl)) (fun _ _ _ h => h) (Or.inl ⟨by rfl, ?_⟩) ?_ ?_
          rotate_left
          focus (intro w'; go_simp; with_reducible rfl)
          rotate_left
          focus (simp only [Act.put, List.setIfInBounds_toArray, List.set_cons_zero, List.set_cons_succ, i64_w, i32_w]; rfl)
          refine done_ (done_of HT_.out (by kernel_rfl)) ?_
          go_wp2
          go_roundw
          case rel => exact ⟨pre ++ [a], t, done ++ [q], by rw [len_snoc], HSX, ⟨by rw [← HRO.out]; exact HRL2.out⟩, ⟨HDL2.out _⟩, ⟨(by (with_reducible repeat first | apply ra_ | apply rn_ | apply rd_); exact HO6.out)⟩, ⟨(by (with_reducible repeat first | apply ra_ | apply rn_ | apply rd_); exact HO9.out)⟩, AP1, ⟨(by repeat first | (with_reducible first | exact HB.out | apply ba_ | apply bn_ | apply bd_) | exact HB.out)⟩⟩
          case measure => simp [intOf]; omega
theorem own_ne {α : Type} {k : Kd α} {e base : Nat} {w : World} {ok : Nat → Prop} {v : Value} {xs : List α} (h : k.R e w base ok v xs) {g t : Nat} {cs : Array Value} (hb : w.heap[g]? = some (.cells cs t (0, 0))) (ht : e ≠ t) : some g ≠ v.ownBlock := by
  intro he
  obtain ⟨inner, ho⟩ := Kd.R_own h
  obtain ⟨cells, hc⟩ := own_typed ho g he.symm
  rw [hb] at hc
  injection hc with h1
  injection h1 with _ h2
  exact ht h2.symm
/-- The cursor of the draws, in its box at g: the code that it reads came in, its place is at most B. -/
def Cur (w0 w : World) (g : Nat) (code : List Int) (B : Int) : Prop :=
  w0.heap.size ≤ g ∧ (∀ x ∈ code, 0 ≤ x ∧ x ≤ 255) ∧ ∃ (A : Option Addr) (c : Nat) (p s : Int), w.heap[g]? = some (.cells #[.slice A code.length c, .int .i64 p, .int .u64 s] 85 (0, 0)) ∧ (Kd.int .u8).C w0 A code.length code ∧ 0 ≤ p ∧ p ≤ B
theorem Cur.blk {w0 w : World} {g : Nat} {code : List Int} {B : Int} (h : Cur w0 w g code B) : ∃ cs, w.heap[g]? = some (.cells cs 85 (0, 0)) := by
  obtain ⟨_, _, A, c, p, s, h1, _⟩ := h
  exact ⟨_, h1⟩
theorem Cur.ge {w0 w : World} {g : Nat} {code : List Int} {B : Int} (h : Cur w0 w g code B) : w0.heap.size ≤ g := h.1
theorem Cur.lt {w0 w : World} {g : Nat} {code : List Int} {B : Int} (h : Cur w0 w g code B) : g < w.heap.size := by
  obtain ⟨cs, h1⟩ := h.blk
  exact blk_lt h1
theorem Cur.step {w0 w w1 : World} {g : Nat} {code : List Int} {B B' : Int} (h : Cur w0 w g code B) (hg : w1.heap[g]? = w.heap[g]?) (hb : B ≤ B') : Cur w0 w1 g code B' := by
  obtain ⟨h0, h1, A, c, p, s, h2, h3, h4, h5⟩ := h
  exact ⟨h0, h1, A, c, p, s, by rw [hg]; exact h2, h3, h4, by omega⟩
theorem Cur.below {w0 w w1 : World} {g : Nat} {code : List Int} {B : Int} (h : Cur w0 w g code B) (hb : Below w.heap.size w w1) : Cur w0 w1 g code B := by
  obtain ⟨h0, h1, A, c, p, s, h2, h3⟩ := h
  exact ⟨h0, h1, A, c, p, s, blk_below h2 hb, h3⟩
theorem Cur.drew {w0 w : World} {g : Nat} {code : List Int} {B : Int} (h : Cur w0 w g code B) : Cur w0 w.drew g code B := h
theorem Cur.drewN {w0 w : World} {g : Nat} {code : List Int} {B : Int} (h : Cur w0 w g code B) (n : Nat) : Cur w0 (w.drewN n) g code B := h
theorem Cur.alloc {w0 w : World} {g : Nat} {code : List Int} {B : Int} (h : Cur w0 w g code B) (o : Obj) : Cur w0 (w.alloc o) g code B := h.below (below_alloc (Below.refl _ _) o)
theorem Cur.new {w0 w : World} {A : Option Addr} {c : Nat} {code : List Int} (hb : Below w0.heap.size w0 w) (hc : (Kd.int .u8).C w0 A code.length code) (hx : ∀ x ∈ code, 0 ≤ x ∧ x ≤ 255) : Cur w0 (w.alloc (.cells #[.slice A code.length c, .int .i64 0, .int .u64 0] 85 (0, 0))) w.heap.size code 0 := ⟨below_size hb, hx, A, c, 0, 0, blk_new w _, hc, by decide, by decide⟩
/-- A row of one's own keeps what it holds while the cursor goes on. -/
theorem R_draw {α : Type} {d : Kd α} {e base : Nat} {w0 w w1 : World} {v : Value} {xs : List α} {g : Nat} {code : List Int} {B : Int} {ok : Nat → Prop} (hf : ∀ (w : World) (b : Nat) (p q : Nat → Prop) x cs, d.M w b p x cs → d.M w b q x cs) (h : d.R e w base ok v xs) (hI : Cur w0 w g code B) (ht : e ≠ 85) (hk : KeepBut w w1 g none) : d.R e w1 base (fun _ => True) v xs := by
  obtain ⟨cs, hb⟩ := hI.blk
  have h1 : d.R e w base (fun k => k ≠ g) v xs := R_flat hf h (fun k hk he => own_ne h hb ht (by rw [hk, he]))
  exact Kd.R_mono (Kd.R_keep h1 hk (fun _ h => h)) (fun _ _ => trivial)
theorem R_ne {α : Type} {d : Kd α} {e base : Nat} {w0 w : World} {A : Option Addr} {n c : Nat} {xs : List α} {g : Nat} {code : List Int} {B : Int} {ok : Nat → Prop} (h : d.R e w base ok (.slice A n c) xs) (hI : Cur w0 w g code B) (ht : e ≠ 85) : ∀ ad, A = some ad → 0 < n → ad.block ≠ g := by
  intro ad he hn hg
  obtain ⟨cs, hb⟩ := hI.blk
  subst he
  obtain ⟨e1, _, _⟩ := Kd.R_reads' h
  obtain ⟨b, cap, e2, _⟩ := Kd.R_form h (by omega)
  injection e2 with e2
  injection e2 with e2
  subst e2
  obtain ⟨cells, hc⟩ := R_block h hn
  rw [show b = g from hg, hb] at hc
  injection hc with h1
  injection h1 with _ h2
  exact ht h2.symm
theorem seed_bd (x : Int) : 0 ≤ Go.bits .and .u64 (IntKind.u64.wrap x / 1099511627776) 255 ∧ Go.bits .and .u64 (IntKind.u64.wrap x / 1099511627776) 255 ≤ 255 := by
  have hw : ∀ n : Int, 0 ≤ n → n < 2 ^ 64 → IntKind.u64.wrap n = n := fun n h1 h2 => by
    have e : IntKind.u64.wrap n = n % 18446744073709551616 := by simp [IntKind.wrap, IntKind.bits, IntKind.signed]
    rw [e]; omega
  have e : IntKind.u64.wrap x = x % 18446744073709551616 := by simp [IntKind.wrap, IntKind.bits, IntKind.signed]
  rw [e]
  obtain ⟨y, hy⟩ : ∃ y, y = x % 18446744073709551616 / 1099511627776 := ⟨_, rfl⟩
  have hb : 0 ≤ y ∧ y < 2 ^ 64 := by omega
  rw [← hy]
  have h := Go.bits_mask .u64 64 (by decide) hw 8 (by decide) y hb.1 hb.2
  have h2 : Go.bits .and .u64 y 255 = y % 256 := h
  rw [h2]; omega
theorem wrap_small (v : Int) (h : 0 ≤ v ∧ v ≤ 255) : IntKind.i64.wrap v = v := IntWalk.i64_in _ (by omega)
set_option maxHeartbeats 8000000 in
set_option maxRecDepth 100000 in
theorem next_c (g : Nat) (code : List Int) (B : Int) (w0 w : World) (hI : Cur w0 w g code B) (hB : Below w0.heap.size w0 w) (hb : B ≤ 1000000000000) :
    Calls Try.prog 96 #[.pointer (some ⟨g, 0, none⟩)] w fun e w' => ∃ v, e = .returned (.int .i64 v) ∧ (0 ≤ v ∧ v ≤ 255) ∧ Cur w0 w' g code (B + 1) ∧ Below w0.heap.size w0 w' ∧ KeepBut w w' g none := by
  obtain ⟨hge, hx, A, c, p, s, hg, hc, hp0, hp1⟩ := hI
  have BKg := am_ hg
  have GEg := am_ hge
  have HX := am_ hx
  have HC := am_ hc
  have HB := am_ hB
  have HK := am_ (KeepBut.refl w g none)
  have hbd : p ≤ 1000000000000 := by omega
  have HP := am_ (show p + 1 ≤ B + 1 from by omega)
  clear hg hge hx hc hB hp1
  by_cases cl : p < code.length
  · have c1 : decide (p < (code.length : Int)) = true := decide_eq_true cl
    have c2 : decide (p + 1 ≤ (code.length : Int)) = true := decide_eq_true (by omega)
    obtain ⟨ad, e1, hcx⟩ := Kd.at_int HC.out p hp0 cl
    cases e1
    replace hcx := HB.out.cell (World.block_lt_of_cell? w0 _ hcx) |>.trans hcx
    obtain ⟨x, hxe⟩ : ∃ x, x = rd code p := ⟨_, rfl⟩
    have hxb : 0 ≤ x ∧ x ≤ 255 := by
      rw [hxe, rd, List.getD_eq_getElem?_getD, List.getElem?_eq_getElem (by omega)]
      exact HX.out _ (List.getElem_mem _)
    rw [← hxe] at hcx
    have hwx := wrap_small x hxb
    have HXB := am_ hxb
    have p1 : (0 ≤ p) = True := eq_true hp0
    have p2 : (p < (code.length : Int)) = True := eq_true cl
    clear hxe hxb
    have yg_0 : w.cell? ⟨g, 0, none⟩ = some (.slice (some ad) code.length c) := (blk_cell BKg.out 0).trans rfl; have fg_0 := blk_frozen BKg.out 0; have yg_1 : w.cell? ⟨g, 1, none⟩ = some (.int .i64 p) := (blk_cell BKg.out 1).trans rfl; have fg_1 := blk_frozen BKg.out 1; have yg_2 : w.cell? ⟨g, 2, none⟩ = some (.int .u64 s) := (blk_cell BKg.out 2).trans rfl; have fg_2 := blk_frozen BKg.out 2
    go_enter Try.func96, Try.ntmps96
    go_wp2
    repeat (go_quiet (fail); try go_wp2)
    go_ret
    exact ⟨x, rfl, HXB.out, ⟨GEg.out, HX.out, some ad, c, p + 1, _, (by (with_reducible repeat first | refine kn_ ?_ _ | refine kd_ ?_ | refine ka_ ?_ _); refine blk_put (cs := #[.slice (some ad) code.length c, .int .i64 (p + 1), .int .u64 s]) ?_ 2 _ rfl; (with_reducible repeat first | refine kn_ ?_ _ | refine kd_ ?_ | refine ka_ ?_ _); refine blk_put (cs := #[.slice (some ad) code.length c, .int .i64 p, .int .u64 s]) ?_ 1 _ rfl; (with_reducible repeat first | refine kn_ ?_ _ | refine kd_ ?_ | refine ka_ ?_ _); exact BKg.out), HC.out, by omega, HP.out⟩, (by repeat first | (with_reducible first | exact HB.out | apply ba_ | apply bn_ | apply bd_ | refine below_set ?_ GEg.out) | exact HB.out), by repeat (first | (with_reducible first | exact HK.out | apply KeepBut.set_ | apply keep_drewN | apply keep_drew | apply keep_alloc) | exact HK.out)⟩
  · have c1 : decide (p < (code.length : Int)) = false := decide_eq_false cl
    have c2 : decide (p + 1 ≤ (code.length : Int)) = false := decide_eq_false (by omega)
    have yg_0 : w.cell? ⟨g, 0, none⟩ = some (.slice A code.length c) := (blk_cell BKg.out 0).trans rfl; have fg_0 := blk_frozen BKg.out 0; have yg_1 : w.cell? ⟨g, 1, none⟩ = some (.int .i64 p) := (blk_cell BKg.out 1).trans rfl; have fg_1 := blk_frozen BKg.out 1; have yg_2 : w.cell? ⟨g, 2, none⟩ = some (.int .u64 s) := (blk_cell BKg.out 2).trans rfl; have fg_2 := blk_frozen BKg.out 2
    go_enter Try.func96, Try.ntmps96
    go_wp2
    repeat (go_quiet (fail); try go_wp2)
    go_ret
    refine ⟨_, rfl, ?_, ⟨GEg.out, HX.out, A, c, p + 1, _, (by (with_reducible repeat first | refine kn_ ?_ _ | refine kd_ ?_ | refine ka_ ?_ _); refine blk_put (cs := #[.slice A code.length c, .int .i64 (p + 1), .int .u64 s]) ?_ 2 _ rfl; (with_reducible repeat first | refine kn_ ?_ _ | refine kd_ ?_ | refine ka_ ?_ _); refine blk_put (cs := #[.slice A code.length c, .int .i64 p, .int .u64 s]) ?_ 1 _ rfl; (with_reducible repeat first | refine kn_ ?_ _ | refine kd_ ?_ | refine ka_ ?_ _); exact BKg.out), HC.out, by omega, HP.out⟩, (by repeat first | (with_reducible first | exact HB.out | apply ba_ | apply bn_ | apply bd_ | refine below_set ?_ GEg.out) | exact HB.out), by repeat (first | (with_reducible first | exact HK.out | apply KeepBut.set_ | apply keep_drewN | apply keep_drew | apply keep_alloc) | exact HK.out)⟩
    have h := seed_bd (IntKind.u64.wrap (IntKind.u64.wrap (s * 6364136223846793005)) + 902902)
    rw [wrapId (by omega)]
    exact h
/-- A row of numbers, as it lies. -/
def numsA (ls : List Int) : Array Value := (ls.map (fun x => Value.int .i64 x)).toArray
theorem C_blk {w : World} {b : Nat} {ls : List Int} (h : w.heap[b]? = some (.cells (numsA ls) 3 (0, 0))) {j : Nat} (hj : j < ls.length) : w.cell? ⟨b, j, none⟩ = some (.int .i64 (ls.getD j 0)) := by
  refine (blk_cell h j).trans ?_
  rw [numsA, List.getElem?_toArray, List.getElem?_map, List.getD_eq_getElem?_getD, List.getElem?_eq_getElem hj]
  rfl
theorem blk_ne {w : World} {b g t t' : Nat} {cs cs' : Array Value} (h : w.heap[b]? = some (.cells cs t (0, 0))) (h' : w.heap[g]? = some (.cells cs' t' (0, 0))) (ht : t ≠ t') : b ≠ g := by
  rintro rfl
  rw [h] at h'
  injection h' with h'
  injection h' with _ h'
  exact ht h'
/-- What a draw leaves: the cursor, what lay before, and all but the cursor's block. -/
def Dr (w0 w w' : World) (g : Nat) (code : List Int) (B : Int) : Prop := Cur w0 w' g code B ∧ Below w0.heap.size w0 w' ∧ KeepBut w w' g none
theorem Dr.refl {w0 w : World} {g : Nat} {code : List Int} {B B' : Int} (h : Cur w0 w g code B) (hb : Below w0.heap.size w0 w) (hB : B ≤ B') : Dr w0 w w g code B' := ⟨h.step rfl hB, hb, KeepBut.refl w g none⟩
theorem Dr.trans {w0 w w1 w2 : World} {g : Nat} {code : List Int} {B B' : Int} (h : Dr w0 w w1 g code B) (k : Dr w0 w1 w2 g code B') : Dr w0 w w2 g code B' := ⟨k.1, k.2.1, h.2.2.trans k.2.2 (.inl rfl)⟩
theorem Dr.more {w0 w w1 : World} {g : Nat} {code : List Int} {B B' : Int} (h : Dr w0 w w1 g code B) (hB : B ≤ B') : Dr w0 w w1 g code B' := ⟨h.1.step rfl hB, h.2⟩
set_option maxHeartbeats 8000000 in
set_option maxRecDepth 100000 in
theorem pick_c (n : Int) (hn : n ≤ 200) (g : Nat) (code : List Int) (B : Int) (w0 w : World) (hI : Cur w0 w g code B) (hB : Below w0.heap.size w0 w) (hb : B ≤ 900000000000) :
    Calls Try.prog 79 #[.pointer (some ⟨g, 0, none⟩), .int .i64 n] w fun e w' => ∃ v, e = .returned (.int .i64 v) ∧ (0 ≤ v ∧ (1 ≤ n → v < n)) ∧ Dr w0 w w' g code (B + 1) := by
  by_cases h1 : n ≤ 1
  · have HD := am_ (Dr.refl hI hB (show B ≤ B + 1 by omega))
    have c1 : decide (n ≤ 1) = true := decide_eq_true h1
    clear hI hB
    go_enter Try.func79, Try.ntmps79
    go_wp2
    go_ret
    exact ⟨0, rfl, ⟨by omega, by omega⟩, HD.out⟩
  · have c1 : decide (n ≤ 1) = false := decide_eq_false h1
    have c2 : decide (200 < n) = false := decide_eq_false (by omega)
    have HN := am_ (next_c g code B w0 w hI hB (by omega))
    have hnz : ¬ n = 0 := by omega
    clear hI hB
    go_enter Try.func79, Try.ntmps79
    go_wp2_with fail
    refine HN.out.mono ?_
    rintro e w1 ⟨x, rfl, hx, hc, hb1, hk⟩
    have HD := am_ (show Dr w0 w w1 g code (B + 1) from ⟨hc, hb1, hk⟩)
    have hme : x.tmod n = x % n := Int.tmod_eq_emod_of_nonneg hx.1
    have hm : 0 ≤ x % n ∧ x % n < n := ⟨Int.emod_nonneg _ hnz, Int.emod_lt_of_pos _ (by omega)⟩
    have HM := am_ hm
    have hw : wrap64 (x % n) = x % n := wrapId (by omega)
    have x0 := hx.1
    clear hc hb1 hk hm
    go_wp2
    go_ret
    exact ⟨_, rfl, ⟨HM.out.1, fun _ => HM.out.2⟩, HD.out⟩
set_option maxHeartbeats 8000000 in
set_option maxRecDepth 100000 in
theorem among_c (ls : List Int) (b n cap : Nat) (hn : 1 ≤ n ∧ n ≤ ls.length ∧ n ≤ 200) (g : Nat) (code : List Int) (B : Int) (w0 w : World) (hI : Cur w0 w g code B) (hB : Below w0.heap.size w0 w) (hb : B ≤ 900000000000) (hl : w.heap[b]? = some (.cells (numsA ls) 3 (0, 0))) :
    Calls Try.prog 75 #[.pointer (some ⟨g, 0, none⟩), .slice (some ⟨b, 0, none⟩) n cap] w fun e w' => ∃ v, e = .returned (.int .i64 v) ∧ v ∈ ls ∧ Dr w0 w w' g code (B + 1) := by
  obtain ⟨cs, hcs⟩ := hI.blk
  have hne := blk_ne hl hcs (by decide)
  have HP := am_ (pick_c (n : Int) (by omega) g code B w0 w hI hB hb)
  have HL := am_ hl
  have n1 := hn.1
  have n2 := hn.2.1
  clear hcs hI hB hl hn
  go_enter Try.func75, Try.ntmps75
  go_wp2_with fail
  refine HP.out.mono ?_
  rintro e w1 ⟨v, rfl, ⟨v0, v1⟩, hd⟩
  have HD := am_ hd
  have v2 := v1 (by omega)
  obtain ⟨k, rfl⟩ : ∃ k : Nat, v = k := ⟨v.toNat, by omega⟩
  have hkn : k < ls.length := by omega
  have hy : w1.cell? ⟨b, k, none⟩ = some (.int .i64 (ls.getD k 0)) := C_blk (hd.2.2.blk HL.out hne (by simp)) hkn
  obtain ⟨x, hx⟩ : ∃ x, x = ls.getD k 0 := ⟨_, rfl⟩
  have HX := am_ (show x ∈ ls from by rw [hx, List.getD_eq_getElem?_getD, List.getElem?_eq_getElem hkn]; exact List.getElem_mem hkn)
  rw [← hx] at hy
  have tk : (k : Int).toNat = k := Int.toNat_natCast k
  clear hd hx v1 hkn
  go_wp2
  go_ret
  exact ⟨x, rfl, HX.out, HD.out⟩
theorem Dr.cur {w0 w w1 : World} {g : Nat} {code : List Int} {B : Int} (h : Dr w0 w w1 g code B) : Cur w0 w1 g code B := h.1
theorem Dr.below {w0 w w1 : World} {g : Nat} {code : List Int} {B : Int} (h : Dr w0 w w1 g code B) : Below w0.heap.size w0 w1 := h.2.1
theorem Dr.drew {w0 w w1 : World} {g : Nat} {code : List Int} {B : Int} (h : Dr w0 w w1 g code B) : Dr w0 w w1.drew g code B := ⟨h.1, below_drew1 h.2.1, keep_drew h.2.2⟩
theorem Dr.drewN {w0 w w1 : World} {g : Nat} {code : List Int} {B : Int} (h : Dr w0 w w1 g code B) (n : Nat) : Dr w0 w (w1.drewN n) g code B := ⟨h.1, pw_below_drewN h.2.1 n, keep_drewN h.2.2 n⟩
theorem Dr.alloc {w0 w w1 : World} {g : Nat} {code : List Int} {B : Int} (h : Dr w0 w w1 g code B) (o : Obj) : Dr w0 w (w1.alloc o) g code B := ⟨h.1.alloc o, below_alloc h.2.1 o, keep_alloc h.2.2 o⟩
/-- A row's block is none that lay in w. -/
def Late (w : World) (v : Value) : Prop := ∀ k, v.ownBlock = some k → w.heap.size ≤ k
theorem Late.lit {w w1 : World} {v : Value} (hs : w.heap.size ≤ w1.heap.size) (hn : ∃ b, v.ownBlock = some b ∧ w1.heap.size ≤ b) : Late w v := by
  obtain ⟨b, e, hb⟩ := hn
  intro k hk
  rw [e] at hk
  injection hk with hk
  omega
theorem Late.app {w w1 : World} {v v1 : Value} (h : Late w v) (hs : w.heap.size ≤ w1.heap.size) (hat : v1.ownBlock = v.ownBlock ∨ ∃ b, v1.ownBlock = some b ∧ w1.heap.size ≤ b) : Late w v1 := by
  rcases hat with e | hn
  · intro k hk; exact h k (e ▸ hk)
  · exact Late.lit hs hn
theorem Dr.grown {w0 w w1 w2 : World} {g : Nat} {code : List Int} {B : Int} {v : Value} (h : Dr w0 w w1 g code B) (hg : w1.grownBy w2 v.ownBlock) (hl : Late w v) (hb : Below w0.heap.size w0 w2) (hne : some g ≠ v.ownBlock) : Dr w0 w w2 g code B :=
  ⟨h.1.step (hg.block g h.1.lt hne) (Int.le_refl _), hb, ⟨Nat.le_trans h.2.2.1 hg.size, fun i hi hgi hr => (hg.block i (Nat.lt_of_lt_of_le hi h.2.2.1) (fun e => by have := hl i e.symm; omega)).trans (h.2.2.2 i hi hgi hr)⟩⟩
theorem Dr.lit {w0 w w1 w2 : World} {g : Nat} {code : List Int} {B : Int} (h : Dr w0 w w1 g code B) (hg : w1.grownBy w2 none) (hb : Below w0.heap.size w0 w2) : Dr w0 w w2 g code B :=
  ⟨h.1.step (hg.block g h.1.lt (by simp)) (Int.le_refl _), hb, ⟨Nat.le_trans h.2.2.1 hg.size, fun i hi hgi hr => (hg.block i (Nat.lt_of_lt_of_le hi h.2.2.1) (by simp)).trans (h.2.2.2 i hi hgi hr)⟩⟩
theorem Dr.size {w0 w w1 : World} {g : Nat} {code : List Int} {B : Int} (h : Dr w0 w w1 g code B) : w.heap.size ≤ w1.heap.size := h.2.2.1
/-- A row of one's own behind a draw. -/
theorem R_dr {α : Type} {d : Kd α} {e base : Nat} {w0 w w1 : World} {v : Value} {xs : List α} {g : Nat} {code : List Int} {B B' : Int} (hf : ∀ (w : World) (b : Nat) (p q : Nat → Prop) x cs, d.M w b p x cs → d.M w b q x cs) (h : d.R e w base (fun _ => True) v xs) (hI : Cur w0 w g code B) (ht : e ≠ 85) (hd : Dr w0 w w1 g code B') : d.R e w1 base (fun _ => True) v xs := R_draw hf h hI ht hd.2.2
theorem own_cur {α : Type} {d : Kd α} {e base : Nat} {ok : Nat → Prop} {w0 w : World} {v : Value} {xs : List α} {g : Nat} {code : List Int} {B : Int} (h : d.R e w base ok v xs) (hI : Cur w0 w g code B) (ht : e ≠ 85) : some g ≠ v.ownBlock := by
  obtain ⟨cs, hb⟩ := hI.blk
  exact own_ne h hb ht
def lenOf : Value → Nat
  | .slice _ n _ => n
  | _ => 0
theorem flat_Tranche (w : World) (b : Nat) (p q : Nat → Prop) (x : S49) (cs : List Value) (h : k49.M w b p x cs) : k49.M w b q x cs := by
  obtain rfl := k49_openM h
  exact k49_mkM w b q x

theorem infoT : (Try.prog.info? 49).map (fun i => (i.zero, i.size, i.bytes)) = some (some (.agg #[(.int .i64 0), (.int .i64 0)]), 2, 16) := by kernel_rfl
set_option maxHeartbeats 16000000 in
set_option maxRecDepth 100000 in
theorem tranches_c (g : Nat) (code : List Int) (B : Int) (w wa : World) (hI : Cur w wa g code B) (hB : Below w.heap.size w wa) (hb : B ≤ 800000000000) :
    Calls Try.prog 71 #[.pointer (some ⟨g, 0, none⟩)] wa fun e w' => ∃ v xs, e = .returned v ∧ Kd.R k49 49 w' w.heap.size (fun _ => True) v xs ∧ xs.length ≤ 100 ∧ Dr w wa w' g code (B + 1000) := by
  have HD := am_ (Dr.refl hI hB (Int.le_refl B))
  have HB := am_ hB
  clear hI hB
  go_enter Try.func71, Try.ntmps71
  go_wp2_with (((with_reducible refine gate_dst (N := 5) rfl ?_); refine Kd.R_lit k49 w.heap.size 49 (w0 := w) ?hg (N := 5) ?hd (xs := []) (inner := []) (ok := fun _ => True) (okp := fun _ => True) ?hr ?hp (fun _ hk => hk) trivial (by repeat first | (with_reducible first | exact HB.out | apply ba_ | apply bn_ | apply bd_) | exact HB.out) (below_size (by repeat first | (with_reducible first | exact HB.out | apply ba_ | apply bn_ | apply bd_) | exact HB.out)) (by simp) ?_; (case hd => rfl); (case hg => rfl); (case hr => first | (go_simp; done) | (go_simp; rfl)); (case hp => exact (Reps.none _ _)); intro v1 w1 ho hb hgr hnw); have HO := am_ ho; have HL := am_ (Late.lit HD.out.size hnw); have n_ := am_ (HD.out.lit hgr hb); clear HB HD; have HD := n_; have HB := am_ hb; clear n_ ho hb hgr hnw)
  refine (pick_c 7 (by decide) g code _ w _ HD.out.cur HB.out (by omega)).mono ?_
  rintro e w2_ ⟨n, rfl, ⟨n0, n1⟩, hd⟩
  have n_HO := am_ (R_dr flat_Tranche HO.out HD.out.cur (by decide) hd)
  have k_ := am_ (HD.out.trans hd)
  clear HD HB hd HO
  have HO := n_HO
  clear n_HO
  have HD := k_
  clear k_
  have HB := am_ HD.out.below
  have n7 := n1 (by decide)
  clear n1
  go_wp2_with fail
  go_loopw [3, 4] (fun v3 v4 wr => ∃ (n : Int) (out : List S49), v4 = .int .i64 n ∧ Aside0 (0 ≤ n ∧ n ≤ 7) ∧ Aside0 ((out.length : Int) + n ≤ 7) ∧ Aside0 (Kd.R k49 49 wr w.heap.size (fun _ => True) v3 out) ∧ Aside0 (Late wa v3) ∧ Aside0 (Dr w wa wr g code (B + 20 - 2 * n))) (fun _ v4 _ => (intOf v4).toNat)
  case atStart => exact ⟨n, [], rfl, ⟨by omega⟩, ⟨by simp; omega⟩, ⟨(by (with_reducible repeat first | apply ra_ | apply rn_ | apply rd_); exact HO.out)⟩, HL, ⟨HD.out.more (by omega)⟩⟩
  case round =>
    clear HO HL HD HB n0 n7
    obtain ⟨n, out, rfl, HN, HLN, HO, HL, HD⟩ := hrel
    have HB := am_ HD.out.below
    have n0 := HN.out.1
    have n7 := HN.out.2
    have hol := HLN.out
    by_cases hn : 0 < n
    · have c1 : decide (0 < n) = true := decide_eq_true hn
      go_wp2_with fail
      refine (among_c [1, 1, 2, 2, 3, 10] _ 6 6 (by decide) g code _ w _ (HD.out.alloc _).cur (ba_ HB.out _) (by omega) (blk_new _ _)).mono ?_
      rintro e w2_ ⟨x1, rfl, hx1_, hd⟩
      clear hx1_
      have n_HO := am_ (R_dr flat_Tranche (Kd.R_alloc HO.out _) (HD.out.alloc _).cur (by decide) hd)
      have k_ := am_ ((HD.out.alloc _).trans hd)
      clear HD HB hd HO
      have HO := n_HO
      clear n_HO
      have HD := k_
      clear k_
      have HB := am_ HD.out.below
      go_wp2_with fail
      refine (among_c [0, 1, 3, 10, 50, 100, 99999, 2000001] _ 8 8 (by decide) g code _ w _ (HD.out.alloc _).cur (ba_ HB.out _) (by omega) (blk_new _ _)).mono ?_
      rintro e w2_ ⟨x2, rfl, hx2_, hd⟩
      clear hx2_
      have n_HO := am_ (R_dr flat_Tranche (Kd.R_alloc HO.out _) (HD.out.alloc _).cur (by decide) hd)
      have k_ := am_ ((HD.out.alloc _).trans hd)
      clear HD HB hd HO
      have HO := n_HO
      clear n_HO
      have HD := k_
      clear k_
      have HB := am_ HD.out.below
      go_wp2_with (((with_reducible refine gate_builtin (b := .append) (xs := #[.tmp 12, .tmp 20]) rfl ?_); at_builtin; refine Kd.R_append k49 (w0 := w) w.heap.size rfl (.tmp 12) (.tmp 20) 30 49 (.agg #[(.int .i64 0), (.int .i64 0)]) 16 rfl Try.underlying30 infoT rfl (by decide) (by omega) u3 out (⟨x1, x2⟩ : S49) [.int .i64 x1, .int .i64 x2] (fun _ => True) (fun _ => False) rfl rfl ?aP (fun _ hk => hk.elim) ?aF ?aO ?aB ?aS ?aL ?_; (case aP => exact k49_mkM _ _ _ _); (case aB => exact (by repeat first | (with_reducible first | exact HB.out | apply ba_ | apply bn_ | apply bd_) | exact HB.out)); (case aF => exact (fun _ _ => trivial)); (case aO => exact (by (with_reducible repeat first | apply ra_ | apply rn_ | apply rd_); exact HO.out)); (case aS => exact (below_size (by repeat first | (with_reducible first | exact HB.out | apply ba_ | apply bn_ | apply bd_) | exact HB.out))); (case aL => omega); intro v1 w1 ho hb hg hat); have n_ := am_ ho; have l_ := am_ (HL.out.app HD.out.size hat); have k_ := am_ (HD.out.grown hg HL.out hb (own_cur HO.out HD.out.cur (by decide))); clear HO HL HD HB; have HO := n_; have HL := l_; have HD := k_; have HB := am_ hb; clear n_ l_ k_ ho hb hg hat)
      go_roundw
      case rel => exact ⟨n - 1, out ++ [⟨x1, x2⟩], by go_num, ⟨by omega⟩, ⟨by rw [List.length_append, List.length_singleton]; push_cast; omega⟩, ⟨(by (with_reducible repeat first | apply ra_ | apply rn_ | apply rd_); exact HO.out)⟩, HL, ⟨HD.out.more (by omega)⟩⟩
      case measure => simp [intOf]; omega
    · have c1 : decide (0 < n) = false := decide_eq_false hn
      have HOL := am_ (show out.length ≤ 7 from by omega)
      go_wp2_with fail
      refine (pick_c 40 (by decide) g code _ w _ HD.out.cur HB.out (by omega)).mono ?_
      rintro e w2_ ⟨v, rfl, ⟨v0, v1⟩, hd⟩
      have n_HO := am_ (R_dr flat_Tranche HO.out HD.out.cur (by decide) hd)
      have k_ := am_ (HD.out.trans hd)
      clear HD HB hd HO
      have HO := n_HO
      clear n_HO
      have HD := k_
      clear k_
      have HB := am_ HD.out.below
      have v2 := v1 (by decide)
      clear v1
      have hol2 := HOL.out
      by_cases e0 : v = 0
      · subst e0
        go_wp2_with fail
        refine (among_c [0, 11, -1] _ 3 3 (by decide) g code _ w _ (HD.out.alloc _).cur (ba_ HB.out _) (by omega) (blk_new _ _)).mono ?_
        rintro e w2_ ⟨x1, rfl, hx1_, hd⟩
        clear hx1_
        have n_HO := am_ (R_dr flat_Tranche (Kd.R_alloc HO.out _) (HD.out.alloc _).cur (by decide) hd)
        have k_ := am_ ((HD.out.alloc _).trans hd)
        clear HD HB hd HO
        have HO := n_HO
        clear n_HO
        have HD := k_
        clear k_
        have HB := am_ HD.out.below
        go_wp2_with (((with_reducible refine gate_builtin (b := .append) (xs := #[.tmp 26, .tmp 31]) rfl ?_); at_builtin; refine Kd.R_append k49 (w0 := w) w.heap.size rfl (.tmp 26) (.tmp 31) 30 49 (.agg #[(.int .i64 0), (.int .i64 0)]) 16 rfl Try.underlying30 infoT rfl (by decide) (by omega) u3 out (⟨x1, 1⟩ : S49) [.int .i64 x1, .int .i64 1] (fun _ => True) (fun _ => False) rfl rfl ?aP (fun _ hk => hk.elim) ?aF ?aO ?aB ?aS ?aL ?_; (case aP => exact k49_mkM _ _ _ _); (case aB => exact (by repeat first | (with_reducible first | exact HB.out | apply ba_ | apply bn_ | apply bd_) | exact HB.out)); (case aF => exact (fun _ _ => trivial)); (case aO => exact (by (with_reducible repeat first | apply ra_ | apply rn_ | apply rd_); exact HO.out)); (case aS => exact (below_size (by repeat first | (with_reducible first | exact HB.out | apply ba_ | apply bn_ | apply bd_) | exact HB.out))); (case aL => omega); intro v1 w1 ho hb hg hat); have n_ := am_ ho; have l_ := am_ (HL.out.app HD.out.size hat); have k_ := am_ (HD.out.grown hg HL.out hb (own_cur HO.out HD.out.cur (by decide))); clear HO HL HD HB; have HO := n_; have HL := l_; have HD := k_; have HB := am_ hb; clear n_ l_ k_ ho hb hg hat)
        go_ret
        exact ⟨_, _, rfl, (by (with_reducible repeat first | apply ra_ | apply rn_ | apply rd_); exact HO.out), by simp; omega, HD.out.more (by omega)⟩
      · by_cases e1 : v = 1
        · subst e1
          go_wp2_with fail
          refine (among_c [-1, 1000000000, 1000000001] _ 3 3 (by decide) g code _ w _ (HD.out.alloc _).cur (ba_ HB.out _) (by omega) (blk_new _ _)).mono ?_
          rintro e w2_ ⟨x1, rfl, hx1_, hd⟩
          clear hx1_
          have n_HO := am_ (R_dr flat_Tranche (Kd.R_alloc HO.out _) (HD.out.alloc _).cur (by decide) hd)
          have k_ := am_ ((HD.out.alloc _).trans hd)
          clear HD HB hd HO
          have HO := n_HO
          clear n_HO
          have HD := k_
          clear k_
          have HB := am_ HD.out.below
          go_wp2_with (((with_reducible refine gate_builtin (b := .append) (xs := #[.tmp 35, .tmp 40]) rfl ?_); at_builtin; refine Kd.R_append k49 (w0 := w) w.heap.size rfl (.tmp 35) (.tmp 40) 30 49 (.agg #[(.int .i64 0), (.int .i64 0)]) 16 rfl Try.underlying30 infoT rfl (by decide) (by omega) u3 out (⟨1, x1⟩ : S49) [.int .i64 1, .int .i64 x1] (fun _ => True) (fun _ => False) rfl rfl ?aP (fun _ hk => hk.elim) ?aF ?aO ?aB ?aS ?aL ?_; (case aP => exact k49_mkM _ _ _ _); (case aB => exact (by repeat first | (with_reducible first | exact HB.out | apply ba_ | apply bn_ | apply bd_) | exact HB.out)); (case aF => exact (fun _ _ => trivial)); (case aO => exact (by (with_reducible repeat first | apply ra_ | apply rn_ | apply rd_); exact HO.out)); (case aS => exact (below_size (by repeat first | (with_reducible first | exact HB.out | apply ba_ | apply bn_ | apply bd_) | exact HB.out))); (case aL => omega); intro v1 w1 ho hb hg hat); have n_ := am_ ho; have l_ := am_ (HL.out.app HD.out.size hat); have k_ := am_ (HD.out.grown hg HL.out hb (own_cur HO.out HD.out.cur (by decide))); clear HO HL HD HB; have HO := n_; have HL := l_; have HD := k_; have HB := am_ hb; clear n_ l_ k_ ho hb hg hat)
          go_ret
          exact ⟨_, _, rfl, (by (with_reducible repeat first | apply ra_ | apply rn_ | apply rd_); exact HO.out), by simp; omega, HD.out.more (by omega)⟩
        · have q0 : (v == 0) = false := by simp [e0]
          have q1 : (v == 1) = false := by simp [e1]
          by_cases e2 : v = 2
          · subst e2
            clear q0 q1 e0 e1 HLN hol
            go_wp2_with fail
            go_loopw [3] (fun v3 wr => ∃ (out : List S49), Aside0 (out.length ≤ 21) ∧ Aside0 (Kd.R k49 49 wr w.heap.size (fun _ => True) v3 out) ∧ Aside0 (Late wa v3) ∧ Aside0 (Dr w wa wr g code (B + 50 + out.length))) (fun v3 _ => 22 - lenOf v3)
            case atStart => exact ⟨out, ⟨by omega⟩, ⟨(by (with_reducible repeat first | apply ra_ | apply rn_ | apply rd_); exact HO.out)⟩, HL, ⟨HD.out.more (by omega)⟩⟩
            case round =>
              clear HO HL HD HB hol2 HOL
              obtain ⟨out, HLN, HO, HL, HD⟩ := hrel
              have HB := am_ HD.out.below
              obtain ⟨A3, c3, e3⟩ := Kd.R_slice HO.out
              subst e3
              have hol := HLN.out
              go_wp2_with fail
              refine (pick_c 2 (by decide) g code _ w _ HD.out.cur HB.out (by omega)).mono ?_
              rintro e w2_ ⟨p, rfl, ⟨p0, p1⟩, hd⟩
              have n_HO := am_ (R_dr flat_Tranche HO.out HD.out.cur (by decide) hd)
              have k_ := am_ (HD.out.trans hd)
              clear HD HB hd HO
              have HO := n_HO
              clear n_HO
              have HD := k_
              clear k_
              have HB := am_ HD.out.below
              have p2 := p1 (by decide)
              clear p1
              by_cases hp : (out.length : Int) < 20 + p
              · have d1 : decide ((out.length : Int) < 20 + p) = true := decide_eq_true hp
                go_wp2_with (((with_reducible refine gate_builtin (b := .append) (xs := #[.tmp 50, .tmp 52]) rfl ?_); at_builtin; refine Kd.R_append k49 (w0 := w) w.heap.size rfl (.tmp 50) (.tmp 52) 30 49 (.agg #[(.int .i64 0), (.int .i64 0)]) 16 rfl Try.underlying30 infoT rfl (by decide) (by omega) (.slice A3 out.length c3) out (⟨4, 3⟩ : S49) [.int .i64 4, .int .i64 3] (fun _ => True) (fun _ => False) rfl rfl ?aP (fun _ hk => hk.elim) ?aF ?aO ?aB ?aS ?aL ?_; (case aP => exact k49_mkM _ _ _ _); (case aB => exact (by repeat first | (with_reducible first | exact HB.out | apply ba_ | apply bn_ | apply bd_) | exact HB.out)); (case aF => exact (fun _ _ => trivial)); (case aO => exact (by (with_reducible repeat first | apply ra_ | apply rn_ | apply rd_); exact HO.out)); (case aS => exact (below_size (by repeat first | (with_reducible first | exact HB.out | apply ba_ | apply bn_ | apply bd_) | exact HB.out))); (case aL => omega); intro v1 w1 ho hb hg hat); have n_ := am_ ho; have l_ := am_ (HL.out.app HD.out.size hat); have k_ := am_ (HD.out.grown hg HL.out hb (own_cur HO.out HD.out.cur (by decide))); clear HO HL HD HB; have HO := n_; have HL := l_; have HD := k_; have HB := am_ hb; clear n_ l_ k_ ho hb hg hat)
                obtain ⟨A4, c4, e4⟩ := Kd.R_slice HO.out
                go_roundw
                case rel => exact ⟨out ++ [⟨4, 3⟩], ⟨by simp; omega⟩, ⟨(by (with_reducible repeat first | apply ra_ | apply rn_ | apply rd_); exact HO.out)⟩, HL, ⟨HD.out.more (by simp; omega)⟩⟩
                case measure => rw [e4]; simp [lenOf]; omega
              · have d1 : decide ((out.length : Int) < 20 + p) = false := decide_eq_false hp
                go_wp2
                go_ret
                exact ⟨_, out, rfl, (by (with_reducible repeat first | apply ra_ | apply rn_ | apply rd_); exact HO.out), by omega, HD.out.more (by omega)⟩
          · have q2 : (v == 2) = false := by simp [e2]
            have z0 : decide (v = 0) = false := decide_eq_false e0
            have z1 : decide (v = 1) = false := decide_eq_false e1
            have z2 : decide (v = 2) = false := decide_eq_false e2
            go_wp2
            go_ret
            exact ⟨_, out, rfl, (by (with_reducible repeat first | apply ra_ | apply rn_ | apply rd_); exact HO.out), by omega, HD.out.more (by omega)⟩
theorem all_in (ls : List Int) (h : ls.all (fun x => decide (-1000000000000 ≤ x ∧ x ≤ 1000000000000)) = true) : ∀ x ∈ ls, -1000000000000 ≤ x ∧ x ≤ 1000000000000 := fun x hx => of_decide_eq_true (List.all_eq_true.mp h x hx)
set_option maxHeartbeats 16000000 in
set_option maxRecDepth 100000 in
theorem cash_c (g : Nat) (code : List Int) (B : Int) (w wa : World) (hI : Cur w wa g code B) (hB : Below w.heap.size w wa) (hb : B ≤ 800000000000) :
    Calls Try.prog 72 #[.pointer (some ⟨g, 0, none⟩)] wa fun e w' => ∃ x, e = .returned (.int .i64 x) ∧ (-1000000000000 ≤ x ∧ x ≤ 1000000000000) ∧ Dr w wa w' g code (B + 2) := by
  have HD := am_ (Dr.refl hI hB (Int.le_refl B))
  have HB := am_ hB
  have hgl := hI.lt
  clear hI hB
  go_enter Try.func72, Try.ntmps72
  go_wp2_with fail
  refine (pick_c 40 (by decide) g code _ w _ (HD.out.alloc _).cur (ba_ HB.out _) (by omega)).mono ?_
  rintro e w2 ⟨v, rfl, ⟨v0, v1⟩, hd⟩
  have HBK := am_ (hd.2.2.blk (g' := wa.heap.size) (o := .cells (numsA [0, 1, 5, 13, 60, 111, 100000, 3000000, 1000000000, -1, 1000000001]) 3 (0, 0)) (blk_new wa _) (Nat.ne_of_gt hgl) (by simp))
  have v2 := v1 (by decide)
  clear v1 hgl
  have k_ := am_ ((HD.out.alloc _).trans hd)
  clear HD HB hd
  have HD := k_
  clear k_
  have HB := am_ HD.out.below
  generalize wa.heap.size = b at HBK ⊢
  by_cases c0 : v < 20
  · have q1 : v.tdiv 20 = 0 := by rw [Int.tdiv_eq_ediv_of_nonneg v0]; omega
    have q2 : v / 20 = 0 := by omega
    go_wp2_with fail
    refine (among_c [0, 1, 5, 13, 60, 111, 100000, 3000000, 1000000000, -1, 1000000001] b 9 11 (by decide) g code _ w _ HD.out.cur HB.out (by omega) HBK.out).mono ?_
    rintro e w3 ⟨x, rfl, hx, hd⟩
    have HX := am_ (all_in [0, 1, 5, 13, 60, 111, 100000, 3000000, 1000000000, -1, 1000000001] (by decide) x hx)
    have k_ := am_ (HD.out.trans hd)
    clear hx hd HD HB
    have HD := k_
    clear k_
    have HB := am_ HD.out.below
    go_wp2
    go_ret
    exact ⟨x, rfl, HX.out, HD.out.more (by omega)⟩
  · have q1 : v.tdiv 20 = 1 := by rw [Int.tdiv_eq_ediv_of_nonneg v0]; omega
    have q2 : v / 20 = 1 := by omega
    go_wp2_with fail
    refine (among_c [0, 1, 5, 13, 60, 111, 100000, 3000000, 1000000000, -1, 1000000001] b 10 11 (by decide) g code _ w _ HD.out.cur HB.out (by omega) HBK.out).mono ?_
    rintro e w3 ⟨x, rfl, hx, hd⟩
    have HX := am_ (all_in [0, 1, 5, 13, 60, 111, 100000, 3000000, 1000000000, -1, 1000000001] (by decide) x hx)
    have k_ := am_ (HD.out.trans hd)
    clear hx hd HD HB
    have HD := k_
    clear k_
    have HB := am_ HD.out.below
    go_wp2
    go_ret
    exact ⟨x, rfl, HX.out, HD.out.more (by omega)⟩
set_option maxHeartbeats 16000000 in
set_option maxRecDepth 100000 in
theorem drawDist_c (A : Option Addr) (c : Nat) (code : List Int) (w : World) (hr : (Kd.int .u8).C w A code.length code) (hx : ∀ x ∈ code, 0 ≤ x ∧ x ≤ 255) :
    Calls Try.prog 41 #[.slice A code.length c] w fun e w' => ∃ v xs cash, e = .returned (.tuple #[v, .int .i64 cash]) ∧ Kd.R k49 49 w' w.heap.size (fun _ => True) v xs ∧ xs.length ≤ 100 ∧ (-1000000000000 ≤ cash ∧ cash ≤ 1000000000000) ∧ Below w.heap.size w w' := by
  have HC := am_ (fun hb => Cur.new (w0 := w) (w := w) (c := c) hb hr hx)
  clear hr hx
  go_enter Try.func41, Try.ntmps41
  go_wp2_with fail
  refine (tranches_c w.heap.size code 0 w _ (HC.out (Below.refl _ _)) (ba_ (Below.refl _ _) _) (by omega)).mono ?_
  rintro e w2 ⟨v, xs, rfl, ho, hl, hd⟩
  have HO := am_ ho
  have HL := am_ hl
  have HD := am_ hd
  clear ho hl hd
  go_wp2_with fail
  refine (cash_c w.heap.size code _ w _ HD.out.cur HD.out.below (by omega)).mono ?_
  rintro e w3 ⟨x, rfl, hx, hd⟩
  have HX := am_ hx
  have n_ := am_ (R_dr flat_Tranche HO.out HD.out.cur (by decide) hd)
  have HB := am_ hd.below
  clear hx hd HO HD
  go_wp2
  go_ret2
  exact ⟨v, xs, x, rfl, (by (with_reducible repeat first | apply ra_ | apply rn_ | apply rd_); exact n_.out), HL.out, HX.out, (by repeat first | (with_reducible first | exact HB.out | apply ba_ | apply bn_ | apply bd_) | exact HB.out)⟩
end Go.Proofs.Ytbnhpkkkijjkkaa.O
