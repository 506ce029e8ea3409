/- Walks of our own, a part of those for the law FnPeriods: each function's contract in plain Lean. No condition beyond the bounds that each contract names. -/
import Derived.Test.YtbnhpkkkijjkkaaPureFnPeriods
import Derived.Shelf.SlicesE.IndexFunc
import Derived.Shelf.Slices.Clone
import Derived.Shelf.Slices.Turned
import Derived.Sort.LotA
import Derived.Shelf.SlSortCmp.Insertion1
import Derived.Shelf.SlLaysH
import Derived.Shelf.Lays2
import Derived.Shelf.Lays
import Derived.Shelf.SlLaysF
import Derived.Test.YtbnhpkkkijjkkaaOFnPeriodsa
import Derived.Test.YtbnhpkkkijjkkaaOFnPeriodsb
import Derived.Test.YtbnhpkkkijjkkaaOFnPeriodsc
import Derived.Test.YtbnhpkkkijjkkaaOFnPeriodsd
import Derived.Test.YtbnhpkkkijjkkaaOFnPeriodse
import Derived.Test.YtbnhpkkkijjkkaaOFnPeriodsf
import Derived.Test.YtbnhpkkkijjkkaaOFnPeriodsg
namespace Go.Proofs.Ytbnhpkkkijjkkaa.O
open Go.RowKit Go.Proofs.YtbnhpkkkijjkkaaW.PrintWords Go.Proofs.YtbnhpkkkijjkkaaW.PrintLast Go.Proofs.YtbnhpkkkijjkkaaW.PrintMore Go.Proofs.Ytbnhpkkkijjkkaa.PL18D Go.Proofs.Ytbnhpkkkijjkkaa.EvKit Go.Proofs.Ytbnhpkkkijjkkaa.Pure
set_option linter.unusedVariables false
set_option linter.unusedSimpArgs false
attribute [local go_sem] max2_int min2_int max_two min_two max_three min_three max_four min_four
set_option maxHeartbeats 16000000 in
set_option maxRecDepth 100000 in
theorem drawRun_c (A : Option Addr) (c : Nat) (code : List Int) (w : World) (hr : (Kd.int .u8).C w A code.length code) (hx : ∀ x ∈ code, 0 ≤ x ∧ x ≤ 255) :
    Calls Try.prog 46 #[.slice A code.length c] w fun e w' => ∃ v u xs cs, e = .returned (.tuple #[v, u]) ∧ Kd.R k49 49 w' w.heap.size (fun _ => True) v xs ∧ xs.length ≤ 100 ∧ (Kd.int .i64).R 3 w' w.heap.size (fun _ => True) u cs ∧ cs.length ≤ 5 ∧ Below w.heap.size w w' := by
  have HC := am_ (fun hb => Cur.new (w0 := w) (w := w) (c := c) hb hr hx)
  clear hr hx
  go_enter Try.func46, Try.ntmps46
  go_wp2_with fail
  have HC1 := am_ (HC.out (Below.refl _ _))
  have HB1 := am_ (ba_ (Below.refl w.heap.size w) (.cells #[.slice A code.length c, .int .i64 0, .int .u64 0] 85))
  clear HC
  obtain ⟨wa, hwa⟩ : ∃ W, W = w.alloc (.cells #[.slice A code.length c, .int .i64 0, .int .u64 0] 85) := ⟨_, rfl⟩
  rw [← hwa] at HC1 HB1 ⊢
  clear hwa
  generalize w.heap.size = g at HC1 ⊢ 
  refine (tranches_c g code 0 w _ HC1.out HB1.out (by omega)).mono ?_
  rintro e w2 ⟨v5, xs, rfl, ho, hl, hd⟩
  have HOT := am_ ho
  have HXL := am_ hl
  have HD := am_ hd
  have HB := am_ hd.below
  clear ho hl hd HC1 HB1
  go_wp2_with (((with_reducible refine gate_dst (N := 13) rfl ?_); refine Kd.R_lit (Kd.int .i64) w.heap.size 3 (w0 := w) ?hg (N := 13) ?hd (xs := []) (inner := []) (ok := fun _ => True) (okp := fun _ => True) ?hr ?hp (fun _ hk => hk) trivial (by repeat first | (with_reducible first | exact HB.out | apply ba_ | apply bn_ | apply bd_) | exact HB.out) (below_size (by repeat first | (with_reducible first | exact HB.out | apply ba_ | apply bn_ | apply bd_) | exact HB.out)) (by simp) ?_; (case hd => rfl); (case hg => rfl); (case hr => first | (go_simp; done) | (go_simp; rfl)); (case hp => exact (Reps.none _ _)); intro v1 w1 ho hb hgr hnw); have HO := am_ ho; have HL := am_ (Late.lit HD.out.size hnw); have n_ := am_ (HD.out.lit hgr hb); have t_ := am_ (Kd.R_grown (by (with_reducible repeat first | apply ra_ | apply rn_ | apply rd_); exact HOT.out) hgr (fun _ _ e => by cases e)); clear HB HD HOT; have HD := n_; have HOT := t_; have HB := am_ hb; clear n_ t_ ho hb hgr hnw)
  refine (pick_c 5 (by decide) g code _ w _ HD.out.cur HB.out (by omega)).mono ?_
  rintro e w3 ⟨n, rfl, ⟨n0, n1⟩, hd⟩
  have n5 := n1 (by decide)
  clear n1
  have n_ := am_ (R_dr flat_int (by (with_reducible repeat first | apply ra_ | apply rn_ | apply rd_); exact HO.out) HD.out.cur (by decide) hd)
  have t_ := am_ (R_dr flat_Tranche (by (with_reducible repeat first | apply ra_ | apply rn_ | apply rd_); exact HOT.out) HD.out.cur (by decide) hd)
  have k_ := am_ (Dr.trans HD.out hd)
  clear HO HOT hd HD HB
  have HO := n_
  have HOT := t_
  have HD := k_
  clear n_ t_ k_
  have HB := am_ HD.out.below
  go_wp2_with fail
  go_loopw [6, 7] (fun v6 v7 wr => ∃ (n : Int) (out : List Int), v7 = .int .i64 n ∧ Aside0 (0 ≤ n ∧ n ≤ 5) ∧ Aside0 ((out.length : Int) + n ≤ 5) ∧ Aside0 ((Kd.int .i64).R 3 wr w.heap.size (fun _ => True) v6 out) ∧ Aside0 (Kd.R k49 49 wr w.heap.size (fun _ => True) v5 xs) ∧ Aside0 (Late wa v6) ∧ Aside0 (Dr w wa wr g code (2000 - 2 * n))) (fun _ v7 _ => (intOf v7).toNat)
  case atStart => exact ⟨n, [], rfl, ⟨by omega⟩, ⟨by simp; omega⟩, ⟨(by (with_reducible repeat first | apply ra_ | apply rn_ | apply rd_); exact HO.out)⟩, ⟨(by (with_reducible repeat first | apply ra_ | apply rn_ | apply rd_); exact HOT.out)⟩, HL, ⟨HD.out.more (by omega)⟩⟩
  case round =>
    clear HO HL HD HB HOT n0 n5
    obtain ⟨n, out, rfl, HN, HLN, HO, HOT, HL, HD⟩ := hrel
    have HB := am_ HD.out.below
    have n0 := HN.out.1
    have n5 := HN.out.2
    have hol := HLN.out
    by_cases hn : 0 < n
    · have c1 : decide (0 < n) = true := decide_eq_true hn
      go_wp2_with fail
      refine (cash_c g code _ w _ HD.out.cur HB.out (by omega)).mono ?_
      rintro e w4 ⟨x, rfl, hx, hd⟩
      have n_ := am_ (R_dr flat_int (by (with_reducible repeat first | apply ra_ | apply rn_ | apply rd_); exact HO.out) HD.out.cur (by decide) hd)
      have t_ := am_ (R_dr flat_Tranche (by (with_reducible repeat first | apply ra_ | apply rn_ | apply rd_); exact HOT.out) HD.out.cur (by decide) hd)
      have k_ := am_ (Dr.trans HD.out hd)
      clear HO HOT hd HD HB hx
      have HO := n_
      have HOT := t_
      have HD := k_
      clear n_ t_ k_
      have HB := am_ HD.out.below
      go_wp2_with (((with_reducible refine gate_builtin (b := .append) (xs := #[.tmp 20, .tmp 23]) rfl ?_); at_builtin; refine Kd.R_append (Kd.int .i64) (w0 := w) w.heap.size rfl (.tmp 20) (.tmp 23) 51 3 (.int .i64 0) 8 rfl Try.underlying51 infoI rfl (by decide) (by omega) u6 out x [.int .i64 x] (fun _ => True) (fun _ => False) rfl rfl ?aP (fun _ hk => hk.elim) ?aF ?aO ?aB ?aS ?aL ?_; (case aP => exact rfl); (case aB => exact (by repeat first | (with_reducible first | exact HB.out | apply ba_ | apply bn_ | apply bd_) | exact HB.out)); (case aF => exact (fun _ _ => trivial)); (case aO => exact (by (with_reducible repeat first | apply ra_ | apply rn_ | apply rd_); exact HO.out)); (case aS => exact (below_size (by repeat first | (with_reducible first | exact HB.out | apply ba_ | apply bn_ | apply bd_) | exact HB.out))); (case aL => omega); intro v1 w1 ho hb hg hat); have n_ := am_ ho; have l_ := am_ (HL.out.app HD.out.size hat); have t_ := am_ (R_grownTy HOT.out HO.out (by decide) hg); have k_ := am_ (HD.out.grown hg HL.out hb (own_cur HO.out HD.out.cur (by decide))); clear HO HL HD HB HOT; have HO := n_; have HL := l_; have HOT := t_; have HD := k_; have HB := am_ hb; clear n_ l_ k_ t_ ho hb hg hat)
      go_roundw
      case rel => exact ⟨n - 1, out ++ [x], by go_num, ⟨by omega⟩, ⟨by rw [List.length_append, List.length_singleton]; push_cast; omega⟩, ⟨(by (with_reducible repeat first | apply ra_ | apply rn_ | apply rd_); exact HO.out)⟩, ⟨(by (with_reducible repeat first | apply ra_ | apply rn_ | apply rd_); exact HOT.out)⟩, HL, ⟨HD.out.more (by omega)⟩⟩
      case measure => simp [intOf]; omega
    · have c1 : decide (0 < n) = false := decide_eq_false hn
      go_wp2
      go_ret2
      exact ⟨v5, u6, rfl, xs, (by (with_reducible repeat first | apply ra_ | apply rn_ | apply rd_); exact HOT.out), HXL.out, out, (by (with_reducible repeat first | apply ra_ | apply rn_ | apply rd_); exact HO.out), by omega, (by repeat first | (with_reducible first | exact HB.out | apply ba_ | apply bn_ | apply bd_) | exact HB.out)⟩
end Go.Proofs.Ytbnhpkkkijjkkaa.O
