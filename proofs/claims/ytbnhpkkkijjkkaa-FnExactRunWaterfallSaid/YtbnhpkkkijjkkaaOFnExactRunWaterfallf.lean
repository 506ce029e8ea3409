/- Walks of our own, a part of those for the law FnExactRunWaterfall: each function's contract in plain Lean. No condition beyond the bounds that each contract names. -/
import Derived.Test.YtbnhpkkkijjkkaaPureFnExactRunWaterfall
import Derived.Shelf.SlicesE.IndexFunc
import Derived.Shelf.Slices.Clone
import Derived.Shelf.Slices.Turned
import Derived.Sort.LotA
import Derived.Shelf.SlSortCmp.Insertion1
import Derived.Shelf.SlLaysH
import Derived.Shelf.Lays2
import Derived.Shelf.Lays
import Derived.Shelf.SlLaysF
import Derived.Test.YtbnhpkkkijjkkaaOFnExactRunWaterfalla
import Derived.Test.YtbnhpkkkijjkkaaOFnExactRunWaterfallb
import Derived.Test.YtbnhpkkkijjkkaaOFnExactRunWaterfallc
import Derived.Test.YtbnhpkkkijjkkaaOFnExactRunWaterfalld
import Derived.Test.YtbnhpkkkijjkkaaOFnExactRunWaterfalle
namespace Go.Proofs.Ytbnhpkkkijjkkaa.O
open Go.RowKit Go.Proofs.YtbnhpkkkijjkkaaW.PrintWords Go.Proofs.YtbnhpkkkijjkkaaW.PrintLast Go.Proofs.YtbnhpkkkijjkkaaW.PrintMore Go.Proofs.Ytbnhpkkkijjkkaa.PL18D Go.Proofs.Ytbnhpkkkijjkkaa.EvKit Go.Proofs.Ytbnhpkkkijjkkaa.Pure
set_option linter.unusedVariables false
set_option linter.unusedSimpArgs false
attribute [local go_sem] max2_int min2_int max_two min_two max_three min_three max_four min_four
theorem infoS : (Try.prog.info? 51).map (fun i => (i.zero, i.size, i.bytes)) = some (some (.slice none 0 0), 1, 24) := by kernel_rfl
/-- Rows in blocks of other types keep what they hold while a row grows or a block is written. -/
theorem R_grownTy {α β : Type} {d : Kd α} {d' : Kd β} {e e' base base' : Nat} {ok' : Nat → Prop} {w w1 : World} {v v' : Value} {xs : List α} {ys : List β} (h : d.R e w base (fun _ => True) v xs) (h' : d'.R e' w base' ok' v' ys) (ht : e' ∉ e :: d.E) (hg : w.grownBy w1 v'.ownBlock) : d.R e w1 base (fun _ => True) v xs :=
  Kd.R_mono (Kd.R_grown (Kd.R_bound h) hg (fun k hk he => by
    obtain ⟨inner, ho⟩ := Kd.R_own h'
    obtain ⟨cells, hc⟩ := own_typed ho k he.symm
    obtain ⟨_, _, _, q, hq, cells', hc'⟩ := hk
    rw [hc] at hc'
    injection hc' with hc'
    injection hc' with _ hc'
    exact ht (hc' ▸ hq))) (fun _ _ => trivial)
theorem R_offTy {α : Type} {d : Kd α} {e base g t : Nat} {w : World} {v : Value} {xs : List α} {cs : Array Value} (h : d.R e w base (fun _ => True) v xs) (hb : w.heap[g]? = some (.cells cs t (0, 0))) (ht : t ∉ e :: d.E) (j : Nat) (u : Value) : d.R e (w.setCell ⟨g, j, none⟩ u) base (fun _ => True) v xs :=
  Kd.R_mono (Kd.R_far (p := ⟨g, j, none⟩) (Kd.R_bound h) (fun k hk => (fun he : k = g => by
    obtain ⟨_, _, _, q, hq, cells', hc'⟩ := hk
    rw [he, hb] at hc'
    injection hc' with hc'
    injection hc' with _ hc'
    exact ht (hc' ▸ hq) : k ≠ g)) u) (fun _ _ => trivial)
theorem R_types {α β : Type} {d : Kd α} {d' : Kd β} {e e' base base' : Nat} {ok ok' : Nat → Prop} {w : World} {v v' : Value} {xs : List α} {ys : List β} (h : d.R e w base ok v xs) (h' : d'.R e' w base' ok' v' ys) (ht : e ≠ e') : ∀ k, v'.ownBlock = some k → some k ≠ v.ownBlock := fun k hk he => by
  obtain ⟨i1, o1⟩ := Kd.R_own h
  obtain ⟨i2, o2⟩ := Kd.R_own h'
  obtain ⟨c1, h1⟩ := own_typed o1 k he.symm
  obtain ⟨c2, h2⟩ := own_typed o2 k hk
  rw [h1] at h2
  injection h2 with h2
  injection h2 with _ h2
  exact ht h2
theorem R_types2 {α β : Type} {d : Kd α} {d' : Kd β} {e e' base base' : Nat} {ok' : Nat → Prop} {w : World} {v v' : Value} {xs : List α} {ys : List β} (h : d.R e w base (fun _ => True) v xs) (h' : d'.R e' w base' ok' v' ys) (ht : e' ∉ e :: d.E) : d.R e w base (fun k => some k ≠ v'.ownBlock) v xs :=
  Kd.R_mono (Kd.R_bound h) (fun k hk he => by
    obtain ⟨inner, ho⟩ := Kd.R_own h'
    obtain ⟨cells, hc⟩ := own_typed ho k he.symm
    obtain ⟨_, _, _, q, hq, cells', hc'⟩ := hk
    rw [hc] at hc'
    injection hc' with hc'
    injection hc' with _ hc'
    exact ht (hc' ▸ hq))
theorem elemT {cur : List S49} {ps : List Int} {k : Nat} (hk : k < cur.length) (hl : ps.length = cur.length) {a : S49} (ha : cur[k]? = some a) : ((subT cur ps).take k ++ cur.drop k).getD k ⟨0, 0⟩ = a := by
  rw [List.getD_eq_getElem?_getD, List.getElem?_append_right (by rw [List.length_take]; omega), List.length_take, subT_len cur ps hl, Nat.min_eq_left (Nat.le_of_lt hk), Nat.sub_self, List.getElem?_drop, Nat.add_zero, ha]; rfl
theorem setT {cur : List S49} {ps : List Int} {k : Nat} (hk : k < cur.length) (hl : ps.length = cur.length) {a : S49} (ha : cur[k]? = some a) : ((subT cur ps).take k ++ cur.drop k).set k ⟨a.f0, a.f1 - rdN ps k⟩ = (subT cur ps).take (k + 1) ++ cur.drop (k + 1) := by
  have h1 := subT_at cur ps hl k a ha
  have h2 := subT_len cur ps hl
  have hk2 : k < (subT cur ps).length := by omega
  have h3 : (subT cur ps)[k] = ⟨a.f0, a.f1 - rdN ps k⟩ := by
    rw [List.getElem?_eq_getElem hk2] at h1
    exact Option.some.inj h1
  rw [List.set_append_right k _ (by rw [List.length_take]; omega), List.length_take, Nat.min_eq_left (Nat.le_of_lt hk2), Nat.sub_self, List.drop_eq_getElem_cons hk, List.set_cons_zero, List.take_succ_eq_append_getElem hk2, h3, List.append_assoc]
  rfl
set_option maxHeartbeats 16000000 in
set_option maxRecDepth 100000 in
theorem runS_c (A0 : Option Addr) (c0 : Nat) (xs : List S49) (A1 : Option Addr) (c1 : Nat) (cs : List Int) (w : World) (hr0 : Kd.C k49 w A0 xs.length xs) (hc0 : xs.length ≤ c0) (hn : xs.length ≤ 1048576) (hr1 : (Kd.int .i64).C w A1 cs.length cs) (hc1 : cs.length ≤ c1) (hm : cs.length ≤ 1048576) :
    Calls Try.prog 48 #[.slice A0 xs.length c0, .slice A1 cs.length c1] w fun e w' => ∃ v u, e = .returned (.tuple #[v, u, .bool (runA xs cs).2.2]) ∧ Kd.R (Kd.slice 3 (Kd.int .i64)) 51 w' w.heap.size (fun _ => True) v (runA xs cs).1 ∧ (Kd.int .i64).R 3 w' w.heap.size (fun _ => True) u (runA xs cs).2.1 ∧ Below w.heap.size w w' := by
  have HB := am_ (Below.refl w.heap.size w)
  have HR0 := am_ hr0
  have HC0 := am_ hc0
  have HR1 := am_ hr1
  have HC1 := am_ hc1
  obtain ⟨kv, hv⟩ := roundsOf (specGoodT_ev xs hn)
  clear hr0 hc0 hr1 hc1
  by_cases g : goodT xs = true
  rotate_left
  · have g' : goodT xs = false := by simpa using g
    rw [g'] at hv
    have HV := am_ hv
    have HNO := am_ (runA_no (cs := cs) (fun q => g q.1))
    clear hv g g'
    go_enter Try.func48, Try.ntmps48
    go_wp2_with (((with_reducible refine gate_dst (N := 20) rfl ?_); refine Kd.R_lit (Kd.slice 3 (Kd.int .i64)) w.heap.size 51 (w0 := w) ?hg (N := 20) ?hd (xs := []) (inner := []) (ok := fun _ => True) (okp := fun _ => True) ?hr ?hp (fun _ hk => hk) trivial (by repeat first | (with_reducible first | exact HB.out | apply ba_ | apply bn_ | apply bd_) | exact HB.out) (below_size (by repeat first | (with_reducible first | exact HB.out | apply ba_ | apply bn_ | apply bd_) | exact HB.out)) (by simp) ?_; (case hd => rfl); (case hg => rfl); (case hr => first | (go_simp; done) | (go_simp; rfl)); (case hp => exact (Reps.none _ _)); intro v1 w1 ho hb hgr hnw); have HO7 := am_ ho; clear HB; have HB := am_ hb; clear ho hb hgr hnw; rename Value => v7)
    refine (spec_l18Good.calls kv A0 c0 xs false _ (by repeat first | exact (Kd.C_below HR0.out HB.out) | with_reducible refine ca_ ?_ _ | with_reducible refine cn_ ?_ _ | with_reducible refine cd_ ?_) HC0.out HV.out).mono ?_
    rintro e w1 ⟨rfl, hb0⟩
    have hb := db_ hb0
    clear hb0
    replace HO7 := am_ (Kd.R_below (by (with_reducible repeat first | apply ra_ | apply rn_ | apply rd_); exact HO7.out) hb); replace HB := am_ (below_step (by repeat first | (with_reducible first | exact HB.out | apply ba_ | apply bn_ | apply bd_) | exact HB.out) hb); clear hb
    go_wp2_with (((with_reducible refine gate_dst (N := 30) rfl ?_); refine Kd.R_lit (Kd.int .i64) w.heap.size 3 (w0 := w) ?hg (N := 30) ?hd (xs := []) (inner := []) (ok := fun _ => True) (okp := fun _ => True) ?hr ?hp (fun _ hk => hk) trivial (by repeat first | (with_reducible first | exact HB.out | apply ba_ | apply bn_ | apply bd_) | exact HB.out) (below_size (by repeat first | (with_reducible first | exact HB.out | apply ba_ | apply bn_ | apply bd_) | exact HB.out)) (by simp) ?_; (case hd => rfl); (case hg => rfl); (case hr => first | (go_simp; done) | (go_simp; rfl)); (case hp => exact (Reps.none _ _)); intro v1 w1 ho hb hgr hnw); have HO5 := am_ ho; have n_ := am_ (Kd.R_grown (by (with_reducible repeat first | apply ra_ | apply rn_ | apply rd_); exact HO7.out) hgr (fun _ _ e => by cases e)); clear HB HO7; have HO7 := n_; have HB := am_ hb; clear n_ ho hb hgr hnw)
    go_ret3
    exact ⟨_, _, by rw [HNO.out]; rfl, by rw [HNO.out]; exact (by (with_reducible repeat first | apply ra_ | apply rn_ | apply rd_); exact HO7.out), by rw [HNO.out]; exact (by (with_reducible repeat first | apply ra_ | apply rn_ | apply rd_); exact HO5.out), (by repeat first | (with_reducible first | exact HB.out | apply ba_ | apply bn_ | apply bd_) | exact HB.out)⟩
  rw [g] at hv
  have HV := am_ hv
  clear hv
  by_cases hl : cs.length ≤ 20
  rotate_left
  · have HNO := am_ (runA_no (xs := xs) (cs := cs) (fun q => hl q.2.2.1))
    have cl : decide (20 < (cs.length : Int)) = true := decide_eq_true (by omega)
    clear g
    go_enter Try.func48, Try.ntmps48
    go_wp2_with (((with_reducible refine gate_dst (N := 20) rfl ?_); refine Kd.R_lit (Kd.slice 3 (Kd.int .i64)) w.heap.size 51 (w0 := w) ?hg (N := 20) ?hd (xs := []) (inner := []) (ok := fun _ => True) (okp := fun _ => True) ?hr ?hp (fun _ hk => hk) trivial (by repeat first | (with_reducible first | exact HB.out | apply ba_ | apply bn_ | apply bd_) | exact HB.out) (below_size (by repeat first | (with_reducible first | exact HB.out | apply ba_ | apply bn_ | apply bd_) | exact HB.out)) (by simp) ?_; (case hd => rfl); (case hg => rfl); (case hr => first | (go_simp; done) | (go_simp; rfl)); (case hp => exact (Reps.none _ _)); intro v1 w1 ho hb hgr hnw); have HO7 := am_ ho; clear HB; have HB := am_ hb; clear ho hb hgr hnw; rename Value => v7)
    refine (spec_l18Good.calls kv A0 c0 xs true _ (by repeat first | exact (Kd.C_below HR0.out HB.out) | with_reducible refine ca_ ?_ _ | with_reducible refine cn_ ?_ _ | with_reducible refine cd_ ?_) HC0.out HV.out).mono ?_
    rintro e w1 ⟨rfl, hb0⟩
    have hb := db_ hb0
    clear hb0
    replace HO7 := am_ (Kd.R_below (by (with_reducible repeat first | apply ra_ | apply rn_ | apply rd_); exact HO7.out) hb); replace HB := am_ (below_step (by repeat first | (with_reducible first | exact HB.out | apply ba_ | apply bn_ | apply bd_) | exact HB.out) hb); clear hb
    go_wp2_with (((with_reducible refine gate_dst (N := 30) rfl ?_); refine Kd.R_lit (Kd.int .i64) w.heap.size 3 (w0 := w) ?hg (N := 30) ?hd (xs := []) (inner := []) (ok := fun _ => True) (okp := fun _ => True) ?hr ?hp (fun _ hk => hk) trivial (by repeat first | (with_reducible first | exact HB.out | apply ba_ | apply bn_ | apply bd_) | exact HB.out) (below_size (by repeat first | (with_reducible first | exact HB.out | apply ba_ | apply bn_ | apply bd_) | exact HB.out)) (by simp) ?_; (case hd => rfl); (case hg => rfl); (case hr => first | (go_simp; done) | (go_simp; rfl)); (case hp => exact (Reps.none _ _)); intro v1 w1 ho hb hgr hnw); have HO5 := am_ ho; have n_ := am_ (Kd.R_grown (by (with_reducible repeat first | apply ra_ | apply rn_ | apply rd_); exact HO7.out) hgr (fun _ _ e => by cases e)); clear HB HO7; have HO7 := n_; have HB := am_ hb; clear n_ ho hb hgr hnw)
    go_ret3
    exact ⟨_, _, by rw [HNO.out]; rfl, by rw [HNO.out]; exact (by (with_reducible repeat first | apply ra_ | apply rn_ | apply rd_); exact HO7.out), by rw [HNO.out]; exact (by (with_reducible repeat first | apply ra_ | apply rn_ | apply rd_); exact HO5.out), (by repeat first | (with_reducible first | exact HB.out | apply ba_ | apply bn_ | apply bd_) | exact HB.out)⟩
  have cl : decide (20 < (cs.length : Int)) = false := decide_eq_false (by omega)
  have G := am_ g
  have hn20 := (good_parts g).2
  clear g
  go_enter Try.func48, Try.ntmps48
  go_wp2_with (((with_reducible refine gate_dst (N := 20) rfl ?_); refine Kd.R_lit (Kd.slice 3 (Kd.int .i64)) w.heap.size 51 (w0 := w) ?hg (N := 20) ?hd (xs := []) (inner := []) (ok := fun _ => True) (okp := fun _ => True) ?hr ?hp (fun _ hk => hk) trivial (by repeat first | (with_reducible first | exact HB.out | apply ba_ | apply bn_ | apply bd_) | exact HB.out) (below_size (by repeat first | (with_reducible first | exact HB.out | apply ba_ | apply bn_ | apply bd_) | exact HB.out)) (by simp) ?_; (case hd => rfl); (case hg => rfl); (case hr => first | (go_simp; done) | (go_simp; rfl)); (case hp => exact (Reps.none _ _)); intro v1 w1 ho hb hgr hnw); have HO7 := am_ ho; clear HB; have HB := am_ hb; clear ho hb hgr hnw; rename Value => v7)
  refine (spec_l18Good.calls kv A0 c0 xs true _ (by repeat first | exact (Kd.C_below HR0.out HB.out) | with_reducible refine ca_ ?_ _ | with_reducible refine cn_ ?_ _ | with_reducible refine cd_ ?_) HC0.out HV.out).mono ?_
  rintro e w1 ⟨rfl, hb0⟩
  have hb := db_ hb0
  clear hb0
  replace HO7 := am_ (Kd.R_below (by (with_reducible repeat first | apply ra_ | apply rn_ | apply rd_); exact HO7.out) hb); replace HB := am_ (below_step (by repeat first | (with_reducible first | exact HB.out | apply ba_ | apply bn_ | apply bd_) | exact HB.out) hb); clear hb
  go_wp2_with fail
  go_loopw [8, 9] (fun v8 v9 wr => ∃ (pre rest : List Int), v8 = .int .i64 (sumI pre) ∧ v9 = .int .i64 pre.length ∧ Aside0 (cs = pre ++ rest) ∧ Aside0 (∀ c ∈ pre, 0 ≤ c ∧ c ≤ 1000000000) ∧ Aside0 (Kd.R (Kd.slice 3 (Kd.int .i64)) 51 wr w.heap.size (fun _ => True) v7 []) ∧ Aside0 (Below w.heap.size w wr)) (fun _ v9 _ => cs.length - (intOf v9).toNat)
  case atStart => exact ⟨[], cs, rfl, rfl, ⟨rfl⟩, ⟨by simp⟩, ⟨(by (with_reducible repeat first | apply ra_ | apply rn_ | apply rd_); exact HO7.out)⟩, ⟨(by repeat first | (with_reducible first | exact HB.out | apply ba_ | apply bn_ | apply bd_) | exact HB.out)⟩⟩
  case round =>
    clear HO7 HB
    obtain ⟨pre, rest, rfl, rfl, HX, HP, HO7, HB⟩ := hrel
    have hs0 := sumI_nonneg pre (fun c hc => (HP.out c hc).1)
    have hs1 := sumI_le pre 1000000000 (fun c hc => (HP.out c hc).2)
    cases rest with
    | nil =>
      have hln := len_nil HX.out
      have hx_ : cs = pre := by simpa using HX.out
      have c1 : decide ((pre.length : Int) < cs.length) = false := decide_eq_false (by omega)
      have c1' : decide (pre.length < cs.length) = false := decide_eq_false (by omega)
      by_cases hsm : 1000000000 < sumI pre
      · have c3 : decide (1000000000 < sumI pre) = true := decide_eq_true hsm
        have HNO := am_ (runA_no (xs := xs) (cs := cs) (fun q => by have := q.2.2.2; rw [hx_] at this; omega))
        clear hx_ hln HX hsm
        go_wp2_with (((with_reducible refine gate_dst (N := 54) rfl ?_); refine Kd.R_lit (Kd.int .i64) w.heap.size 3 (w0 := w) ?hg (N := 54) ?hd (xs := []) (inner := []) (ok := fun _ => True) (okp := fun _ => True) ?hr ?hp (fun _ hk => hk) trivial (by repeat first | (with_reducible first | exact HB.out | apply ba_ | apply bn_ | apply bd_) | exact HB.out) (below_size (by repeat first | (with_reducible first | exact HB.out | apply ba_ | apply bn_ | apply bd_) | exact HB.out)) (by simp) ?_; (case hd => rfl); (case hg => rfl); (case hr => first | (go_simp; done) | (go_simp; rfl)); (case hp => exact (Reps.none _ _)); intro v1 w1 ho hb hgr hnw); have HO5 := am_ ho; have n_ := am_ (Kd.R_grown (by (with_reducible repeat first | apply ra_ | apply rn_ | apply rd_); exact HO7.out) hgr (fun _ _ e => by cases e)); clear HB HO7; have HO7 := n_; have HB := am_ hb; clear n_ ho hb hgr hnw)
        go_ret3
        exact ⟨_, _, by rw [HNO.out]; rfl, by rw [HNO.out]; exact (by (with_reducible repeat first | apply ra_ | apply rn_ | apply rd_); exact HO7.out), by rw [HNO.out]; exact (by (with_reducible repeat first | apply ra_ | apply rn_ | apply rd_); exact HO5.out), (by repeat first | (with_reducible first | exact HB.out | apply ba_ | apply bn_ | apply bd_) | exact HB.out)⟩
      · have c3 : decide (1000000000 < sumI pre) = false := decide_eq_false hsm
        have OK := am_ (show okCash cs from ⟨by rw [hx_]; exact HP.out, hl, by rw [hx_]; omega⟩)
        clear hx_ hln HX hsm
        go_wp2_with (first
          | (((with_reducible refine gate_dst (N := 55) rfl ?_); refine Kd.R_lit k49 w.heap.size 49 (w0 := w) ?hg (N := 55) ?hd (xs := []) (inner := []) (ok := fun _ => True) (okp := fun _ => True) ?hr ?hp (fun _ hk => hk) trivial (by repeat first | (with_reducible first | exact HB.out | apply ba_ | apply bn_ | apply bd_) | exact HB.out) (below_size (by repeat first | (with_reducible first | exact HB.out | apply ba_ | apply bn_ | apply bd_) | exact HB.out)) (by simp) ?_; (case hd => rfl); (case hg => rfl); (case hr => first | (go_simp; done) | (go_simp; rfl)); (case hp => exact (Reps.none _ _)); intro v1 w1 ho hb hgr hnw); rename Value => v55; have HO10 := am_ ho; have n_ := am_ (Kd.R_grown (by (with_reducible repeat first | apply ra_ | apply rn_ | apply rd_); exact HO7.out) hgr (fun _ _ e => by cases e)); clear HB HO7; have HO7 := n_; have HB := am_ hb; clear n_ ho hb hgr hnw)
          | (((with_reducible refine gate_builtin (b := .append) (xs := #[.tmp 55, .tmp 56]) rfl ?_); at_builtin; refine Kd.R_append_rows k49 (Rr := Kd.K k49 ?aW) (w0 := w) w.heap.size rfl (.tmp 55) (.tmp 56) 30 49 (.agg #[(.int .i64 0), (.int .i64 0)]) 16 rfl Try.underlying30 infoT rfl (by decide) (by omega) v55 [] xs A0 xs.length c0 (fun _ => True) (fun _ => False) rfl rfl ?aO ?aR ?aK (fun _ hk => hk.elim) ?aF ?aB ?aS ?aL ?_; (case aR => exact (by repeat first | exact (Kd.C_below HR0.out HB.out) | with_reducible refine ca_ ?_ _ | with_reducible refine cn_ ?_ _ | with_reducible refine cd_ ?_)); (case aK => exact (fun x cs h => by obtain rfl := k49_open h; exact k49_mkM _ _ _ x)); (case aB => exact (by repeat first | (with_reducible first | exact HB.out | apply ba_ | apply bn_ | apply bd_) | exact HB.out)); (case aF => exact (fun _ _ => trivial)); (case aO => exact (by (with_reducible repeat first | apply ra_ | apply rn_ | apply rd_); exact HO10.out)); (case aS => exact (below_size (by repeat first | (with_reducible first | exact HB.out | apply ba_ | apply bn_ | apply bd_) | exact HB.out))); (case aL => (simp only [List.length_nil]; omega)); intro v1 w1 ho hb hg hat); rw [List.nil_append] at ho; have n_ := am_ (R_grownTy (by (with_reducible repeat first | apply ra_ | apply rn_ | apply rd_); exact HO7.out) (by (with_reducible repeat first | apply ra_ | apply rn_ | apply rd_); exact HO10.out) (by decide) hg); clear HB HO7 HO10; have HO7 := n_; have HO10 := am_ ho; have HB := am_ hb; clear n_ ho hb hg hat))
        obtain ⟨A10, c10, e10⟩ := Kd.R_slice HO10.out
        subst e10
        clear HP hs0 hs1
        go_loopw [7, 11, 12] (fun v7 v11 v12 wr => ∃ (j : Nat) (rs : Int) (parts : List (List Int)) (cur : List S49), v11 = .int .i64 rs ∧ v12 = .int .i64 j ∧ Aside0 (j ≤ cs.length) ∧ Aside0 (cur.length = xs.length) ∧ Aside0 (goodT cur = true) ∧ Aside0 (0 ≤ rs ∧ rs + sumI (cs.drop j) ≤ 1000000000) ∧ Aside0 (runW xs 0 cs = (parts ++ (runW cur rs (cs.drop j)).1, (runW cur rs (cs.drop j)).2)) ∧ Aside0 (parts.length = j) ∧ Aside0 (Kd.R (Kd.slice 3 (Kd.int .i64)) 51 wr w.heap.size (fun _ => True) v7 parts) ∧ Aside0 (Kd.R k49 49 wr w.heap.size (fun _ => True) (.slice A10 xs.length c10) cur) ∧ Aside0 (Below w.heap.size w wr)) (fun _ _ v12 _ => cs.length - (intOf v12).toNat)
        case atStart => exact ⟨0, 0, [], xs, rfl, rfl, ⟨Nat.zero_le _⟩, ⟨rfl⟩, G, ⟨by have := OK.out.2.2; rw [List.drop_zero]; omega⟩, ⟨by rw [List.drop_zero, List.nil_append]⟩, ⟨rfl⟩, ⟨(by (with_reducible repeat first | apply ra_ | apply rn_ | apply rd_); exact HO7.out)⟩, ⟨(by (with_reducible repeat first | apply ra_ | apply rn_ | apply rd_); exact HO10.out)⟩, ⟨(by repeat first | (with_reducible first | exact HB.out | apply ba_ | apply bn_ | apply bd_) | exact HB.out)⟩⟩
        case round =>
          clear HO7 HO10 HB
          obtain ⟨j, rs, parts, cur, rfl, rfl, HJ, HCL, HGC, HRS, HRW, HPL, HO7, HO10, HB⟩ := hrel
          by_cases hj : j < cs.length
          · have d1 : decide (j < cs.length) = true := decide_eq_true hj
            obtain ⟨c, hc⟩ : ∃ c, c = cs[j] := ⟨_, rfl⟩
            have hdr : cs.drop j = c :: cs.drop (j + 1) := by rw [hc]; exact List.drop_eq_getElem_cons hj
            have hcb := OK.out.1 c (by rw [hc]; exact List.getElem_mem hj)
            have hnn := sumI_nonneg (cs.drop (j + 1)) (fun x hx => (OK.out.1 x (List.mem_of_mem_drop hx)).1)
            have hrs := HRS.out
            have hrw := HRW.out
            rw [hdr] at hrs hrw
            simp only [sumI, runW] at hrs hrw
            have hb : 0 ≤ rs + c ∧ rs + c ≤ 1000000000 := by omega
            have sv := dist_facts HGC.out hb
            have hyes : (distA ranksL cur (rs + c)).2.2 = true := by rw [distA_yes HGC.out hb]
            have hok := distA_ok hyes
            have hD := fun W h hcap => distS_c A10 c10 cur (rs + c) W h hcap (by have := HCL.out; omega)
            rw [HCL.out] at hD
            obtain ⟨DA, hDA⟩ : ∃ D, D = distA ranksL cur (rs + c) := ⟨_, rfl⟩
            rw [← hDA] at hrw sv hyes hD hok
            clear hDA
            obtain ⟨ps, lf, ok⟩ := DA
            simp only at hrw sv hyes hD hok
            subst hyes
            have HPB := am_ hok.1
            have hs_ := sv.sum
            have hps_ := sumI_nonneg ps (fun x hx => (hok.1 x hx).1)
            have HRS2R := am_ (show 0 ≤ lf ∧ lf + sumI (cs.drop (j + 1)) ≤ 1000000000 from ⟨sv.bd.1, by omega⟩)
            have HRW3 := am_ (show runW xs 0 cs = ((parts ++ [ps]) ++ (runW (subT cur ps) lf (cs.drop (j + 1))).1, (runW (subT cur ps) lf (cs.drop (j + 1))).2) from by rw [hrw, List.append_assoc]; rfl)
            clear hok hs_ hps_
            have HDD := am_ hD
            have HRW2 := am_ hrw
            have HSV := am_ sv
            have HRS2 := am_ hrs
            obtain ⟨ad, e0, hy⟩ := Kd.at_int HR1.out (j : Int) (by omega) (by omega)
            have hcd : rd cs (j : Int) = c := by rw [rd, Int.toNat_natCast, List.getD_eq_getElem?_getD, List.getElem?_eq_getElem hj, hc]; rfl
            rw [hcd] at hy
            simp only [Int.toNat_natCast] at hy
            cases e0
            have hy1 := (HB.out.cell (World.block_lt_of_cell? w _ hy)).trans hy
            have q0 : (0 : Int) ≤ (j : Int) := by omega
            have q1 : (j : Int) < (cs.length : Int) := by omega
            have tn : (j : Int).toNat = j := Int.toNat_natCast _
            have b0 := hb.1
            have b1 := hb.2
            clear hD hrw sv hrs hy hc hdr hcd hnn hb
            go_wp2_with fail
            refine (HDD.out _ (by repeat first | exact (R_C HO10.out) | with_reducible refine ca_ ?_ _ | with_reducible refine cn_ ?_ _ | with_reducible refine cd_ ?_) (R_cap HO10.out)).mono ?_
            rintro e w3 ⟨v13, rfl, ho, hb⟩
            have HO13 := am_ (Kd.R_lower ho (show w.heap.size ≤ _ from below_size (by repeat first | (with_reducible first | exact HB.out | apply ba_ | apply bn_ | apply bd_) | exact HB.out)))
            replace HO7 := am_ (Kd.R_below (by (with_reducible repeat first | apply ra_ | apply rn_ | apply rd_); exact HO7.out) hb); replace HO10 := am_ (Kd.R_below (by (with_reducible repeat first | apply ra_ | apply rn_ | apply rd_); exact HO10.out) hb); replace HB := am_ (below_step (by repeat first | (with_reducible first | exact HB.out | apply ba_ | apply bn_ | apply bd_) | exact HB.out) hb); clear hb
            clear ho hy1
            have hpl : ps.length = xs.length := HSV.out.len.trans HCL.out
            obtain ⟨A13, c13, e13⟩ := Kd.R_slice HO13.out
            rw [hpl] at e13
            subst e13
            go_wp2_with fail
            go_loopw [16] (fun v16 wr => ∃ k : Nat, v16 = .int .i64 k ∧ Aside0 (k ≤ xs.length) ∧ Aside0 (Kd.R (Kd.slice 3 (Kd.int .i64)) 51 wr w.heap.size (fun _ => True) u7 parts) ∧ Aside0 ((Kd.int .i64).R 3 wr w.heap.size (fun _ => True) (.slice A13 xs.length c13) ps) ∧ Aside0 (Kd.R k49 49 wr w.heap.size (fun _ => True) (.slice A10 xs.length c10) ((subT cur ps).take k ++ cur.drop k)) ∧ Aside0 (Below w.heap.size w wr)) (fun v16 _ => xs.length - (intOf v16).toNat)
            case atStart => exact ⟨0, rfl, ⟨Nat.zero_le _⟩, ⟨(by (with_reducible repeat first | apply ra_ | apply rn_ | apply rd_); exact HO7.out)⟩, ⟨(by (with_reducible repeat first | apply ra_ | apply rn_ | apply rd_); exact HO13.out)⟩, ⟨by rw [List.take_zero, List.nil_append, List.drop_zero]; exact (by (with_reducible repeat first | apply ra_ | apply rn_ | apply rd_); exact HO10.out)⟩, ⟨(by repeat first | (with_reducible first | exact HB.out | apply ba_ | apply bn_ | apply bd_) | exact HB.out)⟩⟩
            case round =>
              clear HO7 HO10 HO13 HB
              obtain ⟨k, rfl, HK, HO7, HO13, HO10, HB⟩ := hrel
              by_cases hk : k < xs.length
              · have d1k : decide (k < xs.length) = true := decide_eq_true hk
                have hkc : k < cur.length := by rw [HCL.out]; exact hk
                obtain ⟨a, ha⟩ : ∃ a, a = cur[k] := ⟨_, rfl⟩
                have hak : cur[k]? = some a := by rw [ha]; exact List.getElem?_eq_getElem hkc
                have HLK := am_ hkc
                obtain ⟨b10, e10⟩ := R_head HO10.out (by rw [List.length_append, List.length_drop]; omega)
                subst e10
                obtain ⟨b13, e13⟩ := R_head HO13.out (by rw [hpl]; omega)
                subst e13
                have hsl := subT_len cur ps (hpl.trans HCL.out.symm)
                have hel : ((subT cur ps).take k ++ cur.drop k).getD k ⟨0, 0⟩ = a := by
                  rw [List.getD_eq_getElem?_getD, List.getElem?_append_right (by rw [List.length_take]; omega), List.length_take, hsl, Nat.min_eq_left (Nat.le_of_lt hkc), Nat.sub_self, List.getElem?_drop, Nat.add_zero, hak]; rfl
                have q0 : (0 : Int) ≤ (k : Int) := by omega
                have q1 : (k : Int) < (xs.length : Int) := by omega
                have tn : (k : Int).toNat = k := Int.toNat_natCast _
                obtain ⟨c_, hcl, hcM, hcc, hcf⟩ := Kd.R_elem HO10.out ⟨0, 0⟩ (k : Int) q0 q1
                rw [tn, hel] at hcM
                obtain rfl := k49_openM hcM
                rw [tn] at hcc hcf
                have y0 : wr.cell? ⟨b10, k * 2, none⟩ = some (.int .i64 a.f0) := hcc 0 _ rfl
                have y1 : wr.cell? ⟨b10, k * 2 + 1, none⟩ = some (.int .i64 a.f1) := hcc 1 _ rfl
                have f0 : wr.frozen? ⟨b10, k * 2, none⟩ = false := hcf 0
                have f1 : wr.frozen? ⟨b10, k * 2 + 1, none⟩ = false := hcf 1
                obtain ⟨y13, f13⟩ := Kd.R_celln 0 HO13.out (k : Int) q0 q1
                rw [tn] at y13 f13
                obtain ⟨P, hP⟩ : ∃ P, P = rdOf 0 ps (k : Int) := ⟨_, rfl⟩
                rw [← hP] at y13
                have hPm : P ∈ ps := by
                  have hk' : k < ps.length := by rw [hpl]; exact hk
                  rw [hP, rdOf, tn, List.getD_eq_getElem?_getD, List.getElem?_eq_getElem hk']
                  exact List.getElem_mem hk'
                have hPb := HPB.out P hPm
                have hab := (good_parts HGC.out).1 a (by rw [ha]; exact List.getElem_mem hkc)
                have p0 := hPb.1
                have p1 := hPb.2
                have a0 := hab.2.1
                have a1 := hab.2.2
                have HA := am_ hak
                have HPR := am_ (show P = rdN ps k from hP)
                clear hcc hcf hcM hcl hel ha hPb hab hPm hP hak
                go_wp2_with fail
                clear y0 y1 f0 f1
                obtain ⟨W1, hW1⟩ : ∃ W1, W1 = wr.alloc (.cells #[.int .i64 a.f0, .int .i64 a.f1] 49) := ⟨_, rfl⟩
                have BK := am_ (show W1.heap[wr.heap.size]? = some (.cells #[.int .i64 a.f0, .int .i64 a.f1] 49 (0, 0)) from by rw [hW1]; exact blk_new wr _)
                have hb1 := (show Below wr.heap.size wr W1 from by rw [hW1]; exact below_alloc (Below.refl _ _) _)
                have y13' := (hb1.cell (World.block_lt_of_cell? wr _ y13)).trans y13
                have HB1 := am_ hb1
                have HW := am_ (Nat.le_refl wr.heap.size)
                rw [← hW1]
                have NE10 := am_ (show b10 ≠ wr.heap.size from Nat.ne_of_lt (R_ownlt HO10.out rfl).2)
                clear hW1 hb1 y13 f13
                generalize hG : wr.heap.size = G at BK NE10 HB1 ⊢
                have GE := am_ (show w.heap.size ≤ G from by rw [← hG]; exact below_size (by repeat first | (with_reducible first | exact HB.out | apply ba_ | apply bn_ | apply bd_) | exact HB.out))
                have yk0 := (blk_cell BK.out 0).trans rfl
                have yk1 := (blk_cell BK.out 1).trans rfl
                have fk0 := blk_frozen BK.out 0
                have fk1 := blk_frozen BK.out 1
                go_region
                clear y13' yk0 yk1 fk0 fk1
                rw [← hG] at HB1
                have hb2 : Below wr.heap.size wr (W1.setCell ⟨G, 1, none⟩ (.int .i64 (a.f1 - P))).drew := below_drew (below_set HB1.out (by rw [hG]; exact Nat.le_refl _))
                have BK2 := am_ (blk_drew (blk_put BK.out 1 (.int .i64 (a.f1 - P)) rfl))
                have M10 := am_ (Kd.R_below HO10.out hb2)
                have M13 := am_ (Kd.R_below HO13.out hb2)
                have M7 := am_ (Kd.R_below HO7.out hb2)
                have MB := am_ (below_step HB.out hb2)
                clear HO10 HO13 HO7 HB HB1 hb2 BK HW hG
                generalize (W1.setCell ⟨G, 1, none⟩ (.int .i64 (a.f1 - P))).drew = W2 at BK2 M10 M13 M7 MB ⊢
                have yk0 := (blk_cell BK2.out 0).trans rfl
                have yk1 := (blk_cell BK2.out 1).trans rfl
                obtain ⟨c_, hcl, hcM, hcc, hcf⟩ := Kd.R_elem M10.out ⟨0, 0⟩ (k : Int) q0 q1
                have HEL := am_ (elemT HLK.out (hpl.trans HCL.out.symm) HA.out)
                rw [tn, HEL.out] at hcM
                obtain rfl := k49_openM hcM
                rw [tn] at hcc hcf
                have y0 : W2.cell? ⟨b10, k * 2, none⟩ = some (.int .i64 a.f0) := hcc 0 _ rfl
                have y1 : W2.cell? ⟨b10, k * 2 + 1, none⟩ = some (.int .i64 a.f1) := hcc 1 _ rfl
                have f0 : W2.frozen? ⟨b10, k * 2, none⟩ = false := hcf 0
                have f1 : W2.frozen? ⟨b10, k * 2 + 1, none⟩ = false := hcf 1
                have HC := am_ hcc
                clear hcc hcf hcM hcl
                go_upto_region 22 with (fail)
                have s10 := (Kd.R_seg M10.out (k : Int) q0 q1 (c := [.int .i64 a.f0, .int .i64 a.f1]) (seg := [.int .i64 a.f0, .int .i64 (a.f1 - P)]) (j := 0) (okp := fun _ => False) (x' := ⟨a.f0, a.f1 - P⟩) rfl HC.out (Nat.le_refl 2) (k49_mkM _ _ _ _) (fun _ h => h.elim)).1
                have e_ := setT HLK.out (hpl.trans HCL.out.symm) HA.out
                rw [← HPR.out] at e_
                rw [show ((k : Int).toNat) = k from rfl, e_] at s10
                obtain ⟨cb, hcb⟩ := own_typed (Kd.R_own M10.out).choose_spec b10 rfl
                have s7 := R_offTy M7.out hcb (by decide) (k * 2) (.int .i64 a.f0)
                have s13 := R_offTy M13.out hcb (by decide) (k * 2) (.int .i64 a.f0)
                have hcb2 := blk_set hcb (k * 2) (.int .i64 a.f0)
                have s7 := R_offTy s7 hcb2 (by decide) (k * 2 + 1) (.int .i64 (a.f1 - P))
                have s13 := R_offTy s13 hcb2 (by decide) (k * 2 + 1) (.int .i64 (a.f1 - P))
                have hge := Kd.R_base M10.out b10 rfl
                have sB := below_set (j := k * 2 + 1) (v := .int .i64 (a.f1 - P)) (below_set (j := k * 2) (v := .int .i64 a.f0) MB.out hge) hge
                clear hcb hcb2 yk0 yk1 y0 y1 f0 f1
                go_wp2
                go_roundw
                case rel => exact ⟨k + 1, rfl, ⟨by omega⟩, ⟨s7⟩, ⟨s13⟩, ⟨s10⟩, ⟨sB⟩⟩
                case measure => simp [intOf]; omega
              · have d2 : decide (k < xs.length) = false := decide_eq_false hk
                have hkn : k = xs.length := by have := HK.out; omega
                have hsl := subT_len cur ps (hpl.trans HCL.out.symm)
                have m10 := am_ (show Kd.R k49 49 wr w.heap.size (fun _ => True) (.slice A10 xs.length c10) (subT cur ps) from by
                  have h := HO10.out
                  rw [hkn, List.take_of_length_le (by rw [hsl, HCL.out]; exact Nat.le_refl _), List.drop_eq_nil_of_le (by rw [HCL.out]; exact Nat.le_refl _), List.append_nil] at h
                  exact h)
                have hpn : parts.length ≤ 20 := by have := HPL.out; omega
                have NE := am_ (R_types HO7.out HO13.out (by decide))
                have HLEN := am_ (hsl.trans HCL.out)
                have HG2 := am_ (goodT_sub HGC.out HSV.out.len HSV.out.fit)
                clear hkn hsl hk HO10 hpl
                have HO10 := m10
                clear m10
                go_wp2_with ((with_reducible refine gate_builtin (b := .append) (xs := #[.tmp 99, .tmp 101]) rfl ?_); at_builtin; refine Aside0.out ?_)
                refine am_ ?_
                -- HERE
                refine Kd.R_append (Kd.slice 3 (Kd.int .i64)) (w0 := w) w.heap.size rfl (.tmp 99) (.tmp 101) 65 51 (.slice none 0 0) 24 rfl Try.underlying65 infoS rfl (by decide) (by omega) u7 parts ps [.slice A13 xs.length c13] (fun _ => True) (fun k => some k ≠ Value.ownBlock u7) rfl rfl ?aP (fun _ hk => ⟨trivial, hk⟩) ?aF ?aO ?aB ?aS ?aL ?_
                case aP => exact ⟨_, rfl, R_flat flat_int HO13.out (fun q hq he => NE.out q hq he)⟩
                case aB => exact (by repeat first | (with_reducible first | exact HB.out | apply ba_ | apply bn_ | apply bd_) | exact HB.out)
                case aF => exact (fun _ _ => trivial)
                case aO => exact (by (with_reducible repeat first | apply ra_ | apply rn_ | apply rd_); exact HO7.out)
                case aS => exact below_size (by repeat first | (with_reducible first | exact HB.out | apply ba_ | apply bn_ | apply bd_) | exact HB.out)
                case aL => omega
                intro v1 w1 ho hb hg hat
                have n10 := am_ (Kd.R_mono (Kd.R_grown (w := _) (R_types2 HO10.out HO7.out (by decide)) hg (fun q hq e => hq e)) (fun _ _ => trivial))
                clear HO7 HB HO10
                have HO10 := n10
                clear n10
                have HO7 := am_ ho
                have HB := am_ hb
                clear ho hb hg hat
                go_wp2
                go_roundw
                case rel => exact ⟨j + 1, lf, parts ++ [ps], subT cur ps, rfl, rfl, ⟨by omega⟩, HLEN, HG2, HRS2R, HRW3, ⟨by rw [List.length_append, HPL.out]; rfl⟩, ⟨(by (with_reducible repeat first | apply ra_ | apply rn_ | apply rd_); exact HO7.out)⟩, ⟨(by (with_reducible repeat first | apply ra_ | apply rn_ | apply rd_); exact HO10.out)⟩, ⟨(by repeat first | (with_reducible first | exact HB.out | apply ba_ | apply bn_ | apply bd_) | exact HB.out)⟩⟩
                case measure => simp [intOf]; omega
                -- HERE1
          · have d1 : decide (j < cs.length) = false := decide_eq_false hj
            have hjn : j = cs.length := by have := HJ.out; omega
            have HFIN := am_ (show runA xs cs = (parts, cur.map (fun a => a.f1), true) from by
              have h := HRW.out
              rw [hjn, List.drop_length] at h
              rw [runA_yes G.out OK.out, h]
              simp [runW])
            clear hjn hj
            go_upto_region 27 with (fail)
            obtain ⟨W0, hW0⟩ : ∃ W0, W0 = wr := ⟨_, rfl⟩
            subst hW0
            have HBR := am_ (Below.refl W0.heap.size W0)
            go_wp2_with (((with_reducible refine gate_dst (N := 103) rfl ?_); refine Kd.R_lit (Kd.int .i64) W0.heap.size 3 (w0 := W0) ?hg (N := 103) ?hd (xs := []) (inner := []) (ok := fun _ => True) (okp := fun _ => True) ?hr ?hp (fun _ hk => hk) trivial (by repeat first | (with_reducible first | exact HBR.out | apply ba_ | apply bn_ | apply bd_) | exact HBR.out) (below_size (by repeat first | (with_reducible first | exact HBR.out | apply ba_ | apply bn_ | apply bd_) | exact HBR.out)) (by simp) ?_; (case hd => rfl); (case hg => rfl); (case hr => first | (go_simp; done) | (go_simp; rfl)); (case hp => exact (Reps.none _ _)); intro v1 w1 ho hb hgr hnw); have HO18 := am_ ho; have HBW := am_ hb; clear HBR ho hb hgr hnw)
            have M7 := am_ (Kd.R_mono (ok' := fun k => k < W0.heap.size) (Kd.R_bound HO7.out) (fun k hk => hk.2.2.1))
            have n_ := am_ (Kd.R_below M7.out HBW.out)
            have m_ := am_ (Kd.R_below HO10.out HBW.out)
            clear HO7 HO10 M7
            go_loopw [18, 19] (fun v18 v19 wz => ∃ (dn rt : List S49), v19 = .int .i64 dn.length ∧ Aside0 (cur = dn ++ rt) ∧ Aside0 (Kd.R (Kd.slice 3 (Kd.int .i64)) 51 wz w.heap.size (fun k => k < W0.heap.size) u7 parts) ∧ Aside0 ((Kd.int .i64).R 3 wz W0.heap.size (fun _ => True) v18 (dn.map (fun a => a.f1))) ∧ Aside0 (Kd.R k49 49 wz w.heap.size (fun _ => True) (.slice A10 xs.length c10) cur) ∧ Aside0 (Below W0.heap.size W0 wz)) (fun _ v19 _ => xs.length - (intOf v19).toNat)
            -- HERE3
            case atStart => exact ⟨[], cur, rfl, ⟨rfl⟩, ⟨(by (with_reducible repeat first | apply ra_ | apply rn_ | apply rd_); exact n_.out)⟩, ⟨(by (with_reducible repeat first | apply ra_ | apply rn_ | apply rd_); exact HO18.out)⟩, ⟨(by (with_reducible repeat first | apply ra_ | apply rn_ | apply rd_); exact m_.out)⟩, ⟨(by repeat first | (with_reducible first | exact HBW.out | apply ba_ | apply bn_ | apply bd_) | exact HBW.out)⟩⟩
            case round =>
              clear n_ m_ HO18 HBW
              obtain ⟨dn, rt, rfl, HX, HO7, HO18, HO10, HBW⟩ := hrel
              have hcl := HCL.out
              cases rt with
              | nil =>
                have d2 : decide (dn.length < xs.length) = false := decide_eq_false (by have := len_nil HX.out; omega)
                have hdn : cur = dn := by simpa using HX.out
                have HD := am_ (show (Kd.int .i64).R 3 wr w.heap.size (fun _ => True) u18 (cur.map (fun a => a.f1)) from by rw [hdn]; exact Kd.R_lower HO18.out (below_size (by repeat first | (with_reducible first | exact HB.out | apply ba_ | apply bn_ | apply bd_) | exact HB.out)))
                have HZ := am_ (below_step HB.out HBW.out)
                clear HX hdn HBW HB HO18
                go_wp2
                go_ret3
                exact ⟨_, _, by rw [HFIN.out]; rfl, by rw [HFIN.out]; exact Kd.R_mono (by (with_reducible repeat first | apply ra_ | apply rn_ | apply rd_); exact HO7.out) (fun _ _ => trivial), by rw [HFIN.out]; exact (by (with_reducible repeat first | apply ra_ | apply rn_ | apply rd_); exact HD.out), (by repeat first | (with_reducible first | exact HZ.out | apply ba_ | apply bn_ | apply bd_) | exact HZ.out)⟩
              | cons a rt =>
                have hlt := len_cons HX.out
                have d2 : decide (dn.length < xs.length) = true := decide_eq_true (by omega)
                have hpl : (dn.length : Int) < xs.length := by omega
                have HSX := am_ (snoc HX.out)
                obtain ⟨ad, e0, hx0, hx1⟩ := at_T49 (R_C HO10.out) (dn.length : Int) (by omega) hpl
                rw [rd_T49_at HX.out rfl] at hx0 hx1
                simp only [Int.toNat_natCast] at hx0 hx1
                cases e0
                have q0 : (0 : Int) ≤ (dn.length : Int) := by omega
                have tn : (dn.length : Int).toNat = dn.length := Int.toNat_natCast _
                have hml : ((dn.map (fun a => a.f1)).length + 1) * 8 ≤ 140737488355328 := by rw [List.length_map]; omega
                go_wp2_with (((with_reducible refine gate_builtin (b := .append) (xs := #[.tmp 110, .tmp 116]) rfl ?_); at_builtin; refine Kd.R_append (Kd.int .i64) (w0 := W0) W0.heap.size rfl (.tmp 110) (.tmp 116) 51 3 (.int .i64 0) 8 rfl Try.underlying51 infoI rfl (by decide) (by omega) u18 (dn.map (fun a => a.f1)) a.f1 [.int .i64 a.f1] (fun _ => True) (fun _ => False) rfl rfl ?aP (fun _ hk => hk.elim) ?aF ?aO ?aB ?aS ?aL ?_; (case aP => exact rfl); (case aB => exact (by repeat first | (with_reducible first | exact HBW.out | apply ba_ | apply bn_ | apply bd_) | exact HBW.out)); (case aF => exact (fun _ _ => trivial)); (case aO => exact (by (with_reducible repeat first | apply ra_ | apply rn_ | apply rd_); exact HO18.out)); (case aS => exact (below_size (by repeat first | (with_reducible first | exact HBW.out | apply ba_ | apply bn_ | apply bd_) | exact HBW.out))); (case aL => omega); intro v1 w1 ho hb hg hat); have n7 := am_ (Kd.R_grown (w := _) HO7.out hg (fun q hq e => by have h_ := Kd.R_base HO18.out q e.symm; omega)); have n10 := am_ (R_grownTy HO10.out HO18.out (by decide) hg); clear HO7 HO10 HBW HO18; have HO7 := n7; have HO10 := n10; have HO18 := am_ ho; have HBW := am_ hb; clear n7 n10 ho hb hg hat)
                go_roundw
                case rel => exact ⟨dn ++ [a], rt, by rw [len_snoc], HSX, ⟨(by (with_reducible repeat first | apply ra_ | apply rn_ | apply rd_); exact HO7.out)⟩, ⟨by rw [List.map_append]; exact (by (with_reducible repeat first | apply ra_ | apply rn_ | apply rd_); exact HO18.out)⟩, ⟨(by (with_reducible repeat first | apply ra_ | apply rn_ | apply rd_); exact HO10.out)⟩, ⟨(by repeat first | (with_reducible first | exact HBW.out | apply ba_ | apply bn_ | apply bd_) | exact HBW.out)⟩⟩
                case measure => simp [intOf]; omega
    | cons c t =>
      have hlt := len_cons HX.out
      have c1 : decide ((pre.length : Int) < cs.length) = true := decide_eq_true (by omega)
      have c1' : decide (pre.length < cs.length) = true := decide_eq_true (by omega)
      have hpl : pre.length < cs.length := by omega
      obtain ⟨ad, e0, hy⟩ := Kd.at_int HR1.out (pre.length : Int) (by omega) (by omega)
      rw [rd_at HX.out rfl] at hy
      simp only [Int.toNat_natCast] at hy
      cases e0
      have hy1 := (HB.out.cell (World.block_lt_of_cell? w _ hy)).trans hy
      have HSX := am_ (snoc HX.out)
      have hw := l1In_eq c 0 1000000000
      have q0 : (0 : Int) ≤ (pre.length : Int) := by omega
      have q1 : (pre.length : Int) < (cs.length : Int) := by omega
      have tn : (pre.length : Int).toNat = pre.length := Int.toNat_natCast _
      by_cases hc : 0 ≤ c ∧ c ≤ 1000000000
      · rw [decide_eq_true hc] at hw
        have HW := am_ hw
        have HCC := am_ hc
        have hc0 := hc.1
        have hc1 := hc.2
        clear hw hc hlt hy
        go_wp2_with fail
        refine (spec_l1In.calls c 0 1000000000 true _ HW.out).mono ?_
        rintro e w2 ⟨rfl, ⟨nd, rfl⟩⟩
        go_wp2
        go_roundw
        case rel => exact ⟨pre ++ [c], t, by rw [sumI_snoc], by rw [len_snoc], HSX, ⟨fun x hx => by rcases List.mem_append.mp hx with q | q; exact HP.out x q; rw [List.mem_singleton.mp q]; exact HCC.out⟩, ⟨(by (with_reducible repeat first | apply ra_ | apply rn_ | apply rd_); exact HO7.out)⟩, ⟨(by repeat first | (with_reducible first | exact HB.out | apply ba_ | apply bn_ | apply bd_) | exact HB.out)⟩⟩
        case measure => simp [intOf]; omega
      · rw [decide_eq_false hc] at hw
        have HW := am_ hw
        have HNO := am_ (runA_no (xs := xs) (cs := cs) (fun q => hc (q.2.1 c (by rw [HX.out]; simp))))
        clear hw hc hlt hy
        go_wp2_with fail
        refine (spec_l1In.calls c 0 1000000000 false _ HW.out).mono ?_
        rintro e w2 ⟨rfl, ⟨nd, rfl⟩⟩
        go_wp2_with (((with_reducible refine gate_dst (N := 44) rfl ?_); refine Kd.R_lit (Kd.int .i64) w.heap.size 3 (w0 := w) ?hg (N := 44) ?hd (xs := []) (inner := []) (ok := fun _ => True) (okp := fun _ => True) ?hr ?hp (fun _ hk => hk) trivial (by repeat first | (with_reducible first | exact HB.out | apply ba_ | apply bn_ | apply bd_) | exact HB.out) (below_size (by repeat first | (with_reducible first | exact HB.out | apply ba_ | apply bn_ | apply bd_) | exact HB.out)) (by simp) ?_; (case hd => rfl); (case hg => rfl); (case hr => first | (go_simp; done) | (go_simp; rfl)); (case hp => exact (Reps.none _ _)); intro v1 w1 ho hb hgr hnw); have HO5 := am_ ho; have n_ := am_ (Kd.R_grown (by (with_reducible repeat first | apply ra_ | apply rn_ | apply rd_); exact HO7.out) hgr (fun _ _ e => by cases e)); clear HB HO7; have HO7 := n_; have HB := am_ hb; clear n_ ho hb hgr hnw)
        go_ret3
        exact ⟨_, _, by rw [HNO.out]; rfl, by rw [HNO.out]; exact (by (with_reducible repeat first | apply ra_ | apply rn_ | apply rd_); exact HO7.out), by rw [HNO.out]; exact (by (with_reducible repeat first | apply ra_ | apply rn_ | apply rd_); exact HO5.out), (by repeat first | (with_reducible first | exact HB.out | apply ba_ | apply bn_ | apply bd_) | exact HB.out)⟩
end Go.Proofs.Ytbnhpkkkijjkkaa.O
