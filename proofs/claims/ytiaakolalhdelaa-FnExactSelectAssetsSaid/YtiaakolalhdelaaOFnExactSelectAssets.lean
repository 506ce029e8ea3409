/- The program's SelectAssets, and the reference's, answer as one plain function does. No other condition. -/
import Derived.Test.YtiaakolalhdelaaPureFnExactSelectAssets
namespace Go.Proofs.Ytiaakolalhdelaa.O
open Go.RowKit Go.Proofs.YtiaakolalhdelaaW.PrintWords Go.Proofs.YtiaakolalhdelaaW.PrintLast Go.Proofs.YtiaakolalhdelaaW.PrintMore Go.Proofs.Ytiaakolalhdelaa.PL17S Go.Proofs.Ytiaakolalhdelaa.EvKit Go.Proofs.Ytiaakolalhdelaa.Pure
set_option linter.unusedVariables false
set_option linter.unusedSimpArgs false
attribute [local go_sem] max2_int min2_int max_two min_two max_three min_three max_four min_four
theorem am_ {p : Prop} (h : p) : Aside0 p := ⟨h⟩
theorem db_ {w w' : World} (h : Drawn0 w w') : Below w.heap.size w w' := Drawn0.below h
/-- A number of rounds at which a printed function answers. -/
theorem roundsOf {α : Type} {g : Nat → Option α} {r : α} (h : Ev g r) : ∃ k, g k = some r := Ev.rounds h
theorem cellsOf {w : World} {b o : Nat} {xs : List Int} (h : (Kd.int .i64).C w (some ⟨b, o, none⟩) xs.length xs) : ∀ j, j < xs.length → w.cell? ⟨b, o + j, none⟩ = some (.int .i64 xs[j]!) := by
  intro j hj
  obtain ⟨ad, e, hc⟩ := Kd.at_int h (j : Int) (by omega) (by omega)
  injection e with e
  subst e
  rw [add_at] at hc
  rw [Int.toNat_natCast] at hc
  rw [hc, rd, Int.toNat_natCast, List.getD_eq_getElem?_getD, List.getElem?_eq_getElem hj, List.getElem!_eq_getElem?_getD, List.getElem?_eq_getElem hj]
  rfl
/-- Between two numbers. -/
def Iv (a b : Nat) (k : Nat) : Prop := a ≤ k ∧ k < b
theorem R_iv {α : Type} {d : Kd α} {e base : Nat} {ok : Nat → Prop} {w : World} {v : Value} {xs : List α} (h : d.R e w base ok v xs) : d.R e w base (Iv base w.heap.size) v xs := Kd.R_mono (Kd.R_bound h) (fun _ hk => ⟨hk.2.1, hk.2.2.1⟩)
/-- Where a row of one's own that is not empty begins. -/
theorem R_head {α : Type} {d : Kd α} {e base : Nat} {ok : Nat → Prop} {w : World} {A : Option Addr} {n c : Nat} {xs : List α} (h : d.R e w base ok (.slice A n c) xs) (hp : 0 < xs.length) : ∃ b, A = some ⟨b, 0, none⟩ := by
  obtain ⟨g, cap, e1, _⟩ := Kd.R_form h hp
  injection e1 with e1
  exact ⟨g, e1⟩
theorem R_ivw {α : Type} {d : Kd α} {e base a b : Nat} {ok : Nat → Prop} {w : World} {v : Value} {xs : List α} (h : d.R e w base ok v xs) (ha : a ≤ base) (hb : b ≤ base) : d.R e w b (Iv a w.heap.size) v xs := Kd.R_lower (Kd.R_mono (Kd.R_bound h) (fun _ hk => ⟨Nat.le_trans ha hk.2.1, hk.2.2.1⟩)) hb
/-- A row whose elements hold no rows lies in its own block alone. -/
theorem R_flat {α : Type} {d : Kd α} {e base : Nat} {ok ok' : Nat → Prop} {w : World} {v : Value} {xs : List α} (hf : ∀ (w : World) (b : Nat) (p q : Nat → Prop) x cs, d.M w b p x cs → d.M w b q x cs) (h : d.R e w base ok v xs) (h0 : ∀ k, v.ownBlock = some k → ok' k) : d.R e w base ok' v xs := ⟨h0, h.2.imp_ (fun _ _ hp => hf _ _ _ _ _ _ hp)⟩
theorem flat_int (w : World) (b : Nat) (p q : Nat → Prop) (x : Int) (cs : List Value) (h : (Kd.int .i64).M w b p x cs) : (Kd.int .i64).M w b q x cs := h
theorem cellsOfD {w : World} {b o m : Nat} {xs : List Int} (h : (Kd.int .i64).C w (some ⟨b, o, none⟩) m xs) : ∀ j, j < xs.length → w.cell? ⟨b, o + j, none⟩ = some (.int .i64 (xs.getD j 0)) := by
  intro j hj
  have hl := Kd.C_len h
  obtain ⟨ad, e, hc⟩ := Kd.at_int h (j : Int) (by omega) (by omega)
  injection e with e
  subst e
  rw [add_at, Int.toNat_natCast] at hc
  exact hc
theorem R_C {α : Type} {d : Kd α} {e base : Nat} {ok : Nat → Prop} {w : World} {A : Option Addr} {n c : Nat} {xs : List α} (h : d.R e w base ok (.slice A n c) xs) : d.C w A n xs := by
  obtain ⟨rfl, _, hc⟩ := Kd.R_reads' h
  exact hc
theorem R_cap {α : Type} {d : Kd α} {e base : Nat} {ok : Nat → Prop} {w : World} {A : Option Addr} {n c : Nat} {xs : List α} (h : d.R e w base ok (.slice A n c) xs) : n ≤ c := (Kd.R_reads' h).2.1
theorem R_same {α : Type} {d : Kd α} {e base : Nat} {ok : Nat → Prop} {w w1 : World} {v : Value} {xs : List α} (h : d.R e w base ok v xs) (hg : w.grownBy w1 none) : d.R e w1 base ok v xs := Kd.R_grown h hg (fun _ _ e => by cases e)
theorem R_block {α : Type} {d : Kd α} {e base g n c : Nat} {ok : Nat → Prop} {w : World} {xs : List α} (h : d.R e w base ok (.slice (some ⟨g, 0, none⟩) n c) xs) (hp : 0 < n) : ∃ cells, w.heap[g]? = some (.cells cells e (0, 0)) := by
  obtain ⟨e1, _, _⟩ := Kd.R_reads' h
  obtain ⟨g', cap, e2, _, _, cells, h3⟩ := Kd.R_form h (by omega)
  injection e2 with e2 _ _
  injection e2 with e2
  injection e2 with e2
  subst e2
  exact ⟨cells, h3⟩
theorem ba_ {w W : World} (h : Below w.heap.size w W) (o : Obj) : Below w.heap.size w (W.alloc o) := below_alloc h o
theorem bn_ {B : Nat} {w W : World} (h : Below B w W) (n : Nat) : Below B w (W.drewN n) := pw_below_drewN h n
theorem bd_ {B : Nat} {w W : World} (h : Below B w W) : Below B w W.drew := below_drew1 h
theorem ca_ {α : Type} {d : Kd α} {w : World} {xs : List α} {A : Option Addr} {n : Nat} (h : d.C w A n xs) (o : Obj) : d.C (w.alloc o) A n xs := Kd.C_alloc h o
theorem cn_ {α : Type} {d : Kd α} {w : World} {xs : List α} {A : Option Addr} {n : Nat} (h : d.C w A n xs) (m : Nat) : d.C (w.drewN m) A n xs := Kd.C_drewN h m
theorem cd_ {α : Type} {d : Kd α} {w : World} {xs : List α} {A : Option Addr} {n : Nat} (h : d.C w A n xs) : d.C w.drew A n xs := Kd.C_drew h
theorem ra_ {α : Type} {d : Kd α} {w : World} {xs : List α} {e : TypeId} {base : Nat} {ok : Nat → Prop} {v : Value} (h : d.R e w base ok v xs) (o : Obj) : d.R e (w.alloc o) base ok v xs := Kd.R_alloc h o
theorem rn_ {α : Type} {d : Kd α} {w : World} {xs : List α} {e : TypeId} {base : Nat} {ok : Nat → Prop} {v : Value} (h : d.R e w base ok v xs) (m : Nat) : d.R e (w.drewN m) base ok v xs := Kd.R_drewN h m
theorem rd_ {α : Type} {d : Kd α} {w : World} {xs : List α} {e : TypeId} {base : Nat} {ok : Nat → Prop} {v : Value} (h : d.R e w base ok v xs) : d.R e w.drew base ok v xs := Kd.R_drew h
theorem ka_ {w : World} {g : Nat} {o : Obj} (h : w.heap[g]? = some o) (o' : Obj) : (w.alloc o').heap[g]? = some o := blk_alloc h o'
theorem kd_ {w : World} {g : Nat} {o : Obj} (h : w.heap[g]? = some o) : w.drew.heap[g]? = some o := blk_drew h
theorem kn_ {w : World} {g : Nat} {o : Obj} (h : w.heap[g]? = some o) (n : Nat) : (w.drewN n).heap[g]? = some o := blk_drewN h n
theorem kf_ {w : World} {g : Nat} {t : TypeId} {cs : Array Value} (h : w.heap[g]? = some (.cells cs t (0, 0))) {p : Addr} (hp : g ≠ p.block) (u : Value) : (w.setCell p u).heap[g]? = some (.cells cs t (0, 0)) := blk_far h hp u
theorem infoI : (Try.prog.info? 3).map (fun i => (i.zero, i.size, i.bytes)) = some (some (.int .i64 0), 1, 8) := by kernel_rfl
theorem bit_q (v i : Nat) (hv : v < 1048576) : Go.bits .and .i64 ((v : Int) / 2 ^ i) 1 = ((v / 2 ^ i % 2 : Nat) : Int) := by
  have e : (v : Int) / 2 ^ i = ((v / 2 ^ i : Nat) : Int) := by simp
  rw [e]
  have h := Nat.div_le_self v (2 ^ i)
  generalize v / 2 ^ i = q at h ⊢
  rw [i64_and1 _ (by omega) (by omega)]
  omega
theorem bit_one {v i : Nat} (hv : v < 1048576) (h : v / 2 ^ i % 2 = 1) : Go.bits .and .i64 ((v : Int) / 2 ^ i) 1 = 1 := by rw [bit_q v i hv, h]; rfl
theorem bit_zero {v i : Nat} (hv : v < 1048576) (h : ¬ v / 2 ^ i % 2 = 1) : Go.bits .and .i64 ((v : Int) / 2 ^ i) 1 = 0 := by rw [bit_q v i hv, show v / 2 ^ i % 2 = 0 from by omega]; rfl
set_option maxHeartbeats 8000000 in
set_option maxRecDepth 100000 in
theorem selS_c (A0 : Option Addr) (c0 : Nat) (xs : List S51) (need : Int) (w : World) (hr0 : Kd.C k51 w A0 xs.length xs) (hc0 : xs.length ≤ c0) (hn : xs.length ≤ 1048576) :
    Calls Try.prog 43 #[.slice A0 xs.length c0, .int .i64 need] w fun e w' => ∃ v, e = .returned (.tuple #[v, .bool (selA xs need).2]) ∧ (Kd.int .i64).R 3 w' w.heap.size (fun _ => True) v (selA xs need).1 ∧ Below w.heap.size w w' := by
  obtain ⟨kg, hg⟩ := roundsOf (specGood_ev xs hn)
  have HR0 := am_ hr0
  have HC0 := am_ hc0
  have HB := am_ (Below.refl w.heap.size w)
  clear hr0 hc0
  have hw := l1In_eq need 0 1000000000
  by_cases g : goodA xs = true
  rotate_left
  · rw [show goodA xs = false from by simpa using g] at hg
    have HG := am_ hg
    rw [show selA xs need = ([], false) from by unfold selA; rw [if_neg (fun v => g v.1)]]
    clear hg hw g
    go_enter Try.func43, Try.ntmps43
    go_wp2_with (((with_reducible refine gate_dst (N := 15) rfl ?_); refine Kd.R_lit (Kd.int .i64) w.heap.size 3 (w0 := w) ?hg (N := 15) ?hd (xs := []) (inner := []) (ok := fun _ => True) (okp := fun _ => True) ?hr ?hp (fun _ hk => hk) trivial (by repeat first | (with_reducible first | exact (Below.refl w.heap.size w) | apply ba_ | apply bn_ | apply bd_) | exact (Below.refl w.heap.size w)) (below_size (by repeat first | (with_reducible first | exact (Below.refl w.heap.size w) | apply ba_ | apply bn_ | apply bd_) | exact (Below.refl w.heap.size w))) (by simp) ?_; (case hd => rfl); (case hg => rfl); (case hr => first | (go_simp; done) | (go_simp; rfl)); (case hp => exact (Reps.none _ _)); intro v1 w1 ho hb hgr hnw); have HOUT := am_ ho; clear HB; have HB := am_ hb; clear ho hb hgr hnw)
    refine (spec_l17Good.calls kg _ _ xs false _ (by repeat first | exact (Kd.C_below HR0.out HB.out) | with_reducible refine ca_ ?_ _ | with_reducible refine cn_ ?_ _ | with_reducible refine cd_ ?_) HC0.out HG.out).mono ?_
    rintro e w2 ⟨rfl, hb⟩
    replace HOUT := am_ (Kd.R_below (by (with_reducible repeat first | apply ra_ | apply rn_ | apply rd_); exact HOUT.out) hb); replace HB := am_ (below_step (by repeat first | (with_reducible first | exact HB.out | apply ba_ | apply bn_ | apply bd_) | exact HB.out) hb); clear hb
    go_wp2
    go_ret2
    exact ⟨_, rfl, (by (with_reducible repeat first | apply ra_ | apply rn_ | apply rd_); exact HOUT.out), (by repeat first | (with_reducible first | exact HB.out | apply ba_ | apply bn_ | apply bd_) | exact HB.out)⟩
  rw [g] at hg
  have HG := am_ hg
  clear hg
  by_cases h10 : xs.length ≤ 10
  rotate_left
  · have cx : decide ((10 : Int) < (xs.length : Int)) = true := decide_eq_true (by omega)
    rw [show selA xs need = ([], false) from by unfold selA; rw [if_neg (fun v => h10 v.2.1)]]
    clear hw g h10
    go_enter Try.func43, Try.ntmps43
    go_wp2_with (((with_reducible refine gate_dst (N := 15) rfl ?_); refine Kd.R_lit (Kd.int .i64) w.heap.size 3 (w0 := w) ?hg (N := 15) ?hd (xs := []) (inner := []) (ok := fun _ => True) (okp := fun _ => True) ?hr ?hp (fun _ hk => hk) trivial (by repeat first | (with_reducible first | exact (Below.refl w.heap.size w) | apply ba_ | apply bn_ | apply bd_) | exact (Below.refl w.heap.size w)) (below_size (by repeat first | (with_reducible first | exact (Below.refl w.heap.size w) | apply ba_ | apply bn_ | apply bd_) | exact (Below.refl w.heap.size w))) (by simp) ?_; (case hd => rfl); (case hg => rfl); (case hr => first | (go_simp; done) | (go_simp; rfl)); (case hp => exact (Reps.none _ _)); intro v1 w1 ho hb hgr hnw); have HOUT := am_ ho; clear HB; have HB := am_ hb; clear ho hb hgr hnw)
    refine (spec_l17Good.calls kg _ _ xs true _ (by repeat first | exact (Kd.C_below HR0.out HB.out) | with_reducible refine ca_ ?_ _ | with_reducible refine cn_ ?_ _ | with_reducible refine cd_ ?_) HC0.out HG.out).mono ?_
    rintro e w2 ⟨rfl, hb⟩
    replace HOUT := am_ (Kd.R_below (by (with_reducible repeat first | apply ra_ | apply rn_ | apply rd_); exact HOUT.out) hb); replace HB := am_ (below_step (by repeat first | (with_reducible first | exact HB.out | apply ba_ | apply bn_ | apply bd_) | exact HB.out) hb); clear hb
    go_wp2
    go_ret2
    exact ⟨_, rfl, (by (with_reducible repeat first | apply ra_ | apply rn_ | apply rd_); exact HOUT.out), (by repeat first | (with_reducible first | exact HB.out | apply ba_ | apply bn_ | apply bd_) | exact HB.out)⟩
  have cx : decide ((10 : Int) < (xs.length : Int)) = false := decide_eq_false (by omega)
  by_cases hnd : 0 ≤ need ∧ need ≤ 1000000000
  rotate_left
  · rw [decide_eq_false hnd] at hw
    have HW := am_ hw
    rw [show selA xs need = ([], false) from by unfold selA; rw [if_neg (fun v => hnd v.2.2)]]
    clear hw g h10 hnd
    go_enter Try.func43, Try.ntmps43
    go_wp2_with (((with_reducible refine gate_dst (N := 15) rfl ?_); refine Kd.R_lit (Kd.int .i64) w.heap.size 3 (w0 := w) ?hg (N := 15) ?hd (xs := []) (inner := []) (ok := fun _ => True) (okp := fun _ => True) ?hr ?hp (fun _ hk => hk) trivial (by repeat first | (with_reducible first | exact (Below.refl w.heap.size w) | apply ba_ | apply bn_ | apply bd_) | exact (Below.refl w.heap.size w)) (below_size (by repeat first | (with_reducible first | exact (Below.refl w.heap.size w) | apply ba_ | apply bn_ | apply bd_) | exact (Below.refl w.heap.size w))) (by simp) ?_; (case hd => rfl); (case hg => rfl); (case hr => first | (go_simp; done) | (go_simp; rfl)); (case hp => exact (Reps.none _ _)); intro v1 w1 ho hb hgr hnw); have HOUT := am_ ho; clear HB; have HB := am_ hb; clear ho hb hgr hnw)
    refine (spec_l17Good.calls kg _ _ xs true _ (by repeat first | exact (Kd.C_below HR0.out HB.out) | with_reducible refine ca_ ?_ _ | with_reducible refine cn_ ?_ _ | with_reducible refine cd_ ?_) HC0.out HG.out).mono ?_
    rintro e w2 ⟨rfl, hb⟩
    replace HOUT := am_ (Kd.R_below (by (with_reducible repeat first | apply ra_ | apply rn_ | apply rd_); exact HOUT.out) hb); replace HB := am_ (below_step (by repeat first | (with_reducible first | exact HB.out | apply ba_ | apply bn_ | apply bd_) | exact HB.out) hb); clear hb
    go_wp2_with fail
    refine (spec_l1In.calls need 0 1000000000 false _ HW.out).mono ?_
    rintro e w3 ⟨rfl, hb0⟩
    have hb := db_ hb0
    clear hb0
    replace HOUT := am_ (Kd.R_below (by (with_reducible repeat first | apply ra_ | apply rn_ | apply rd_); exact HOUT.out) hb); replace HB := am_ (below_step (by repeat first | (with_reducible first | exact HB.out | apply ba_ | apply bn_ | apply bd_) | exact HB.out) hb); clear hb
    go_wp2
    go_ret2
    exact ⟨_, rfl, (by (with_reducible repeat first | apply ra_ | apply rn_ | apply rd_); exact HOUT.out), (by repeat first | (with_reducible first | exact HB.out | apply ba_ | apply bn_ | apply bd_) | exact HB.out)⟩
  rw [decide_eq_true hnd] at hw
  have HW := am_ hw
  obtain ⟨N, hN⟩ : ∃ N, N = 2 ^ xs.length := ⟨_, rfl⟩
  have hN1 : 1 ≤ N := by rw [hN]; exact Nat.pow_pos (by decide)
  have hN2 : N ≤ 1024 := by rw [hN]; exact Nat.le_trans (Nat.pow_le_pow_right (by decide) h10) (by decide)
  obtain ⟨bst, hbst⟩ : ∃ b, b = pick xs need N 0 (-1) 0 := ⟨_, rfl⟩
  rw [sel_end ⟨g, h10, hnd⟩, ← hN, ← hbst]
  have HF := am_ (show pick xs need (N - 0) 0 (-1) 0 = bst from hbst.symm)
  have HN := am_ hN
  have hNw : wrap64 (2 ^ xs.length) = (N : Int) := by
    rw [show (2 : Int) ^ xs.length = (N : Int) from by rw [HN.out]; simp]
    exact wrapId (by omega)
  have hu : IntKind.u64.wrap (xs.length : Int) = (xs.length : Int) := u64_small _ (by omega) (by omega)
  clear hw g hnd hN hbst
  go_enter Try.func43, Try.ntmps43
  go_wp2_with (((with_reducible refine gate_dst (N := 15) rfl ?_); refine Kd.R_lit (Kd.int .i64) w.heap.size 3 (w0 := w) ?hg (N := 15) ?hd (xs := []) (inner := []) (ok := fun _ => True) (okp := fun _ => True) ?hr ?hp (fun _ hk => hk) trivial (by repeat first | (with_reducible first | exact (Below.refl w.heap.size w) | apply ba_ | apply bn_ | apply bd_) | exact (Below.refl w.heap.size w)) (below_size (by repeat first | (with_reducible first | exact (Below.refl w.heap.size w) | apply ba_ | apply bn_ | apply bd_) | exact (Below.refl w.heap.size w))) (by simp) ?_; (case hd => rfl); (case hg => rfl); (case hr => first | (go_simp; done) | (go_simp; rfl)); (case hp => exact (Reps.none _ _)); intro v1 w1 ho hb hgr hnw); have HOUT := am_ ho; clear HB; have HB := am_ hb; clear ho hb hgr hnw)
  refine (spec_l17Good.calls kg _ _ xs true _ (by repeat first | exact (Kd.C_below HR0.out HB.out) | with_reducible refine ca_ ?_ _ | with_reducible refine cn_ ?_ _ | with_reducible refine cd_ ?_) HC0.out HG.out).mono ?_
  rintro e w2 ⟨rfl, hb⟩
  replace HOUT := am_ (Kd.R_below (by (with_reducible repeat first | apply ra_ | apply rn_ | apply rd_); exact HOUT.out) hb); replace HB := am_ (below_step (by repeat first | (with_reducible first | exact HB.out | apply ba_ | apply bn_ | apply bd_) | exact HB.out) hb); clear hb
  go_wp2_with fail
  refine (spec_l1In.calls need 0 1000000000 true _ HW.out).mono ?_
  rintro e w3 ⟨rfl, hb0⟩
  have hb := db_ hb0
  clear hb0
  replace HOUT := am_ (Kd.R_below (by (with_reducible repeat first | apply ra_ | apply rn_ | apply rd_); exact HOUT.out) hb); replace HB := am_ (below_step (by repeat first | (with_reducible first | exact HB.out | apply ba_ | apply bn_ | apply bd_) | exact HB.out) hb); clear hb
  go_wp2
  go_loopw [7, 8, 9, 10] (fun v7 v8 v9 v10 wr => ∃ (b l f : Int) (s : Nat), v7 = .int .i64 b ∧ v8 = .int .i64 l ∧ v9 = .int .i64 f ∧ Aside0 (f = if b < 0 then (0 : Int) else (pc xs.length b.toNat : Int)) ∧ v10 = .int .i64 s ∧ Aside0 (s ≤ N) ∧ Aside0 (-1 ≤ b ∧ b < (N : Int)) ∧ Aside0 (pick xs need (N - s) s b l = bst) ∧ Aside0 ((Kd.int .i64).R 3 wr w.heap.size (fun _ => True) v1 []) ∧ Aside0 (Below w.heap.size w wr)) (fun _ _ _ v10 _ => N - (intOf v10).toNat)
  case atStart => exact ⟨-1, 0, 0, 0, rfl, rfl, rfl, ⟨by rw [if_pos (by decide)]⟩, rfl, ⟨Nat.zero_le _⟩, ⟨by omega⟩, HF, HOUT, HB⟩
  case round =>
    clear HF HB HOUT
    obtain ⟨b, l, f, s, rfl, rfl, rfl, HFW, rfl, HSN, HBD, HF, HOUT, HB⟩ := hrel
    by_cases hsN : s < N
    · have cv : decide (s < N) = true := decide_eq_true hsN
      obtain ⟨SM, hSM⟩ : ∃ q, q = sumSel 0 xs s := ⟨_, rfl⟩
      obtain ⟨MN, hMN⟩ : ∃ q : Int, q = (pc xs.length s : Int) := ⟨_, rfl⟩
      have HSM0 := am_ (show sumSel 0 xs (s / 2 ^ ([] : List S51).length) = SM from by rw [hSM]; simp)
      have HMN0 := am_ (show (0 : Int) + ((blF xs.length (s / 2 ^ ([] : List S51).length) 0).length : Int) = MN from by rw [hMN]; simp [pc])
      have HMN := am_ hMN
      have HSM := am_ hSM
      clear hMN hSM
      go_wp2
      rw [hNw]
      clear hNw hu
      go_loopw [11, 12, 13] (fun v11 v12 v13 wr => ∃ (pre rest : List S51) (sum m : Int), Aside0 (xs = pre ++ rest) ∧ v13 = .int .i64 pre.length ∧ v11 = .int .i64 sum ∧ v12 = .int .i64 m ∧ Aside0 (sumSel sum rest (s / 2 ^ pre.length) = SM) ∧ Aside0 (m + ((blF rest.length (s / 2 ^ pre.length) 0).length : Int) = MN) ∧ Aside0 (0 ≤ m ∧ m ≤ pre.length) ∧ Aside0 ((Kd.int .i64).R 3 wr w.heap.size (fun _ => True) v1 []) ∧ Aside0 (Below w.heap.size w wr)) (fun _ _ v13 _ => xs.length - (intOf v13).toNat)
      case atStart => exact ⟨[], xs, 0, 0, ⟨rfl⟩, rfl, rfl, rfl, HSM0, HMN0, ⟨by simp⟩, ⟨(by (with_reducible repeat first | apply ra_ | apply rn_ | apply rd_); exact HOUT.out)⟩, ⟨(by repeat first | (with_reducible first | exact HB.out | apply ba_ | apply bn_ | apply bd_) | exact HB.out)⟩⟩
      case round =>
        clear HSM0 HMN0 HOUT HB
        obtain ⟨pre, rest, sum, m, HX, rfl, rfl, rfl, HS1, HM1, HMB, HOUT, HB⟩ := hrel
        cases rest with
        | nil =>
          have c : decide (pre.length < xs.length) = false := decide_eq_false (by have := len_nil HX.out; omega)
          obtain rfl : sum = SM := HS1.out
          obtain rfl : m = MN := by have := HM1.out; simp [blF] at this; exact this
          clear HS1 HM1 HMB
          have hstep : N - s = (N - (s + 1)) + 1 := by omega
          by_cases n1 : sum < need
          · have d1 : decide (sum < need) = true := decide_eq_true n1
            have HF1 := am_ (show pick xs need (N - (s + 1)) (s + 1) b l = bst from by have h_ := HF.out; rw [hstep, pick_keep (better_no (fun q => by rw [← HSM.out] at q; omega))] at h_; exact h_)
            clear n1 hstep
            go_wp2
            go_roundw
            case rel => exact ⟨b, l, f, s + 1, rfl, rfl, rfl, HFW, by go_num, ⟨hsN⟩, HBD, HF1, ⟨(by (with_reducible repeat first | apply ra_ | apply rn_ | apply rd_); exact HOUT.out)⟩, ⟨(by repeat first | (with_reducible first | exact HB.out | apply ba_ | apply bn_ | apply bd_) | exact HB.out)⟩⟩
            case measure => simp [intOf]; omega
          have d1 : decide (sum < need) = false := decide_eq_false n1
          by_cases n2 : b < 0
          · have d2 : decide (b < 0) = true := decide_eq_true n2
            have HF1 := am_ (show pick xs need (N - (s + 1)) (s + 1) s sum = bst from by have h_ := HF.out; rw [hstep, pick_take (better_yes (by rw [← HSM.out]; exact ⟨by omega, .inl n2⟩)), ← HSM.out] at h_; exact h_)
            clear n1 n2 hstep
            go_wp2
            go_roundw
            case rel => exact ⟨s, sum, m, s + 1, rfl, rfl, rfl, ⟨by rw [if_neg (by omega), Int.toNat_natCast]; exact HMN.out⟩, by go_num, ⟨hsN⟩, ⟨by omega⟩, HF1, ⟨(by (with_reducible repeat first | apply ra_ | apply rn_ | apply rd_); exact HOUT.out)⟩, ⟨(by repeat first | (with_reducible first | exact HB.out | apply ba_ | apply bn_ | apply bd_) | exact HB.out)⟩⟩
            case measure => simp [intOf]; omega
          have d2 : decide (b < 0) = false := decide_eq_false n2
          by_cases n3 : sum < l
          · have d3 : decide (sum < l) = true := decide_eq_true n3
            have HF1 := am_ (show pick xs need (N - (s + 1)) (s + 1) s sum = bst from by have h_ := HF.out; rw [hstep, pick_take (better_yes (by rw [← HSM.out]; exact ⟨by omega, .inr (.inl n3)⟩)), ← HSM.out] at h_; exact h_)
            clear n1 n2 n3 hstep
            go_wp2
            go_roundw
            case rel => exact ⟨s, sum, m, s + 1, rfl, rfl, rfl, ⟨by rw [if_neg (by omega), Int.toNat_natCast]; exact HMN.out⟩, by go_num, ⟨hsN⟩, ⟨by omega⟩, HF1, ⟨(by (with_reducible repeat first | apply ra_ | apply rn_ | apply rd_); exact HOUT.out)⟩, ⟨(by repeat first | (with_reducible first | exact HB.out | apply ba_ | apply bn_ | apply bd_) | exact HB.out)⟩⟩
            case measure => simp [intOf]; omega
          have d3 : decide (sum < l) = false := decide_eq_false n3
          by_cases n4 : sum = l
          rotate_left
          · have d4 : (sum == l) = false := by simp [n4]
            have d5 : decide (sum = l) = false := decide_eq_false n4
            have HF1 := am_ (show pick xs need (N - (s + 1)) (s + 1) b l = bst from by have h_ := HF.out; rw [hstep, pick_keep (better_no (fun q => by rw [← HSM.out] at q; rcases q.2 with q | q | q <;> omega))] at h_; exact h_)
            clear n1 n2 n3 n4 hstep
            go_wp2
            go_roundw
            case rel => exact ⟨b, l, f, s + 1, rfl, rfl, rfl, HFW, by go_num, ⟨hsN⟩, HBD, HF1, ⟨(by (with_reducible repeat first | apply ra_ | apply rn_ | apply rd_); exact HOUT.out)⟩, ⟨(by repeat first | (with_reducible first | exact HB.out | apply ba_ | apply bn_ | apply bd_) | exact HB.out)⟩⟩
            case measure => simp [intOf]; omega
          have d4 : (sum == l) = true := by simp [n4]
          have d5 : decide (sum = l) = true := decide_eq_true n4
          have hfe : f = (pc xs.length b.toNat : Int) := by rw [HFW.out, if_neg n2]
          have hme := HMN.out
          by_cases n6 : m < f
          · have d6 : decide (m < f) = true := decide_eq_true n6
            have HF1 := am_ (show pick xs need (N - (s + 1)) (s + 1) s sum = bst from by have h_ := HF.out; rw [hstep, pick_take (better_yes (by rw [← HSM.out]; exact ⟨by omega, .inr (.inr ⟨n4, by omega⟩)⟩)), ← HSM.out] at h_; exact h_)
            clear n1 n2 n3 n4 n6 hstep hfe hme
            go_wp2
            go_roundw
            case rel => exact ⟨s, sum, m, s + 1, rfl, rfl, rfl, ⟨by rw [if_neg (by omega), Int.toNat_natCast]; exact HMN.out⟩, by go_num, ⟨hsN⟩, ⟨by omega⟩, HF1, ⟨(by (with_reducible repeat first | apply ra_ | apply rn_ | apply rd_); exact HOUT.out)⟩, ⟨(by repeat first | (with_reducible first | exact HB.out | apply ba_ | apply bn_ | apply bd_) | exact HB.out)⟩⟩
            case measure => simp [intOf]; omega
          have d6 : decide (m < f) = false := decide_eq_false n6
          have HF1 := am_ (show pick xs need (N - (s + 1)) (s + 1) b l = bst from by have h_ := HF.out; rw [hstep, pick_keep (better_no (fun q => by rw [← HSM.out] at q; rcases q.2 with q | q | q <;> omega))] at h_; exact h_)
          clear n1 n2 n3 n4 n6 hstep hfe hme
          go_wp2
          go_roundw
          case rel => exact ⟨b, l, f, s + 1, rfl, rfl, rfl, HFW, by go_num, ⟨hsN⟩, HBD, HF1, ⟨(by (with_reducible repeat first | apply ra_ | apply rn_ | apply rd_); exact HOUT.out)⟩, ⟨(by repeat first | (with_reducible first | exact HB.out | apply ba_ | apply bn_ | apply bd_) | exact HB.out)⟩⟩
          case measure => simp [intOf]; omega
        | cons a t =>
          have hlt := len_cons HX.out
          have hpl : (pre.length : Int) < xs.length := by omega
          obtain ⟨ad, e0, hx0, hx1, hx2⟩ := at_T51 HR0.out (pre.length : Int) (by omega) hpl
          rw [rd_T51_at HX.out rfl] at hx0 hx1 hx2
          simp only [Int.toNat_natCast] at hx0 hx1 hx2
          cases e0
          replace hx0 := (HB.out.cell (World.block_lt_of_cell? w _ hx0)).trans hx0
          replace hx1 := (HB.out.cell (World.block_lt_of_cell? w _ hx1)).trans hx1
          replace hx2 := (HB.out.cell (World.block_lt_of_cell? w _ hx2)).trans hx2
          have c : decide (pre.length < xs.length) = true := decide_eq_true (by omega)
          have hup : IntKind.u64.wrap (pre.length : Int) = (pre.length : Int) := u64_small _ (by omega) (by omega)
          have hq : s / 2 ^ pre.length / 2 = s / 2 ^ (pre.length + 1) := (div_pow_succ s pre.length).symm
          have hmb := HMB.out
          have hs1 := HS1.out
          have hm1 := HM1.out
          have hlen := blF_len_any t.length (s / 2 ^ (pre.length + 1)) (0 + 1) 0
          rw [sumSel, hq] at hs1
          rw [List.length_cons, blF, hq, List.length_append, hlen] at hm1
          clear hlt hq hlen
          by_cases hbt : s / 2 ^ pre.length % 2 = 1
          · have hbit := bit_one (v := s) (i := pre.length) (by omega) hbt
            rw [if_pos hbt] at hs1 hm1
            rw [List.length_singleton] at hm1
            have HS2 := am_ hs1
            have HM2 := am_ (show (m + 1) + ((blF t.length (s / 2 ^ (pre.length + 1)) 0).length : Int) = MN from by rw [← hm1]; push_cast; omega)
            clear hs1 hm1 hbt
            go_wp2_with fail
            clear hx0 hx1 hx2
            refine (spec_l17Value.calls _ _ _ _ _ (specValue_eq a)).mono ?_
            rintro e w4 ⟨rfl, hb⟩
            replace HOUT := am_ (Kd.R_below (by (with_reducible repeat first | apply ra_ | apply rn_ | apply rd_); exact HOUT.out) hb); replace HB := am_ (below_step (by repeat first | (with_reducible first | exact HB.out | apply ba_ | apply bn_ | apply bd_) | exact HB.out) hb); clear hb
            go_wp2
            go_roundw
            case rel => exact ⟨pre ++ [a], t, wrap64 (sum + valW a), m + 1, ⟨snoc HX.out⟩, by rw [len_snoc], by go_num, by go_num, ⟨by rw [List.length_append, List.length_singleton]; exact HS2.out⟩, ⟨by rw [List.length_append, List.length_singleton]; exact HM2.out⟩, ⟨by rw [List.length_append, List.length_singleton]; push_cast; omega⟩, ⟨(by (with_reducible repeat first | apply ra_ | apply rn_ | apply rd_); exact HOUT.out)⟩, ⟨(by repeat first | (with_reducible first | exact HB.out | apply ba_ | apply bn_ | apply bd_) | exact HB.out)⟩⟩
            case measure => simp [intOf]; omega
          · have hbit := bit_zero (v := s) (i := pre.length) (by omega) hbt
            rw [if_neg hbt] at hs1 hm1
            rw [List.length_nil] at hm1
            have HS2 := am_ hs1
            have HM2 := am_ (show m + ((blF t.length (s / 2 ^ (pre.length + 1)) 0).length : Int) = MN from by rw [← hm1]; push_cast; omega)
            clear hs1 hm1 hbt
            clear hx0 hx1 hx2
            go_wp2
            go_roundw
            case rel => exact ⟨pre ++ [a], t, sum, m, ⟨snoc HX.out⟩, by rw [len_snoc], rfl, rfl, ⟨by rw [List.length_append, List.length_singleton]; exact HS2.out⟩, ⟨by rw [List.length_append, List.length_singleton]; exact HM2.out⟩, ⟨by rw [List.length_append, List.length_singleton]; push_cast; omega⟩, ⟨(by (with_reducible repeat first | apply ra_ | apply rn_ | apply rd_); exact HOUT.out)⟩, ⟨(by repeat first | (with_reducible first | exact HB.out | apply ba_ | apply bn_ | apply bd_) | exact HB.out)⟩⟩
            case measure => simp [intOf]; omega
    · obtain rfl : N = s := by have := HSN.out; omega
      have cv : decide (N < N) = false := decide_eq_false (by omega)
      have hF := HF.out
      rw [Nat.sub_self, pick] at hF
      obtain rfl : b = bst := hF
      have hbd := HBD.out
      clear HF HSN HFW
      by_cases n2 : b < 0
      · have d2 : decide (b < 0) = true := decide_eq_true n2
        have HE := am_ (show endSel xs.length b = ([], false) from by unfold endSel; rw [if_pos n2])
        clear n2 hbd
        go_wp2
        go_ret2
        rw [HE.out]
        exact ⟨_, rfl, (by (with_reducible repeat first | apply ra_ | apply rn_ | apply rd_); exact HOUT.out), (by repeat first | (with_reducible first | exact HB.out | apply ba_ | apply bn_ | apply bd_) | exact HB.out)⟩
      have d2 : decide (b < 0) = false := decide_eq_false n2
      obtain ⟨b', rfl⟩ : ∃ b' : Nat, b = (b' : Int) := ⟨b.toNat, by omega⟩
      have HEN := am_ (show endSel xs.length (b' : Int) = (blF xs.length b' 0, true) from by unfold endSel; rw [if_neg n2, Int.toNat_natCast])
      have hbN : b' < N := by omega
      clear n2 hbd
      go_wp2
      rw [hNw]
      clear hNw hu
      go_loopw [6, 14] (fun v6 v14 wr => ∃ (i : Nat) (out : List Int), v14 = .int .i64 i ∧ Aside0 (i ≤ xs.length) ∧ Aside0 (out ++ blF (xs.length - i) (b' / 2 ^ i) i = blF xs.length b' 0) ∧ Aside0 (out.length ≤ i) ∧ Aside0 ((Kd.int .i64).R 3 wr w.heap.size (fun _ => True) v6 out) ∧ Aside0 (Below w.heap.size w wr)) (fun _ v14 _ => xs.length - (intOf v14).toNat)
      case atStart => exact ⟨0, [], rfl, ⟨Nat.zero_le _⟩, ⟨by simp⟩, ⟨by simp⟩, HOUT, HB⟩
      case round =>
        clear HOUT HB
        obtain ⟨i, out, rfl, HI, HE, HL, HOUT, HB⟩ := hrel
        by_cases hi : i < xs.length
        · have ci : decide (i < xs.length) = true := decide_eq_true hi
          have hui : IntKind.u64.wrap (i : Int) = (i : Int) := u64_small _ (by omega) (by omega)
          have hE := HE.out
          have hol : out.length ≤ 10 := by have := HL.out; omega
          rw [show xs.length - i = (xs.length - (i + 1)) + 1 from by omega, blF, ← div_pow_succ] at hE
          by_cases hbt : b' / 2 ^ i % 2 = 1
          · have hbit := bit_one (v := b') (i := i) (by omega) hbt
            rw [if_pos hbt, ← List.append_assoc] at hE
            have HE1 := am_ hE
            clear hE hbt
            go_wp2_with ((with_reducible refine gate_builtin (b := .append) (xs := #[.tmp 97, .tmp 99]) rfl ?_); at_builtin; refine Kd.R_append (Kd.int .i64) (w0 := w) w.heap.size rfl (.tmp 97) (.tmp 99) 39 3 (.int .i64 0) 8 rfl Try.underlying39 infoI rfl (by decide) (by omega) u6 out (i : Int) [.int .i64 i] (fun _ => True) (fun _ => False) rfl rfl ?aP (fun _ hk => hk.elim) ?aF ?aO ?aB ?aS ?aL ?_; (case aP => exact rfl); (case aB => exact (by repeat first | (with_reducible first | exact HB.out | apply ba_ | apply bn_ | apply bd_) | exact HB.out)); (case aF => exact (fun _ _ => trivial)); (case aO => exact (by (with_reducible repeat first | apply ra_ | apply rn_ | apply rd_); exact HOUT.out)); (case aS => exact (below_size (by repeat first | (with_reducible first | exact HB.out | apply ba_ | apply bn_ | apply bd_) | exact HB.out))); (case aL => omega); intro v1 w1 ho hb hg hat)
            go_roundw
            case rel => exact ⟨i + 1, out ++ [(i : Int)], by go_num, ⟨hi⟩, HE1, ⟨by rw [List.length_append, List.length_singleton]; have := HL.out; omega⟩, ⟨(by (with_reducible repeat first | apply ra_ | apply rn_ | apply rd_); exact ho)⟩, ⟨(by repeat first | (with_reducible first | exact hb | apply ba_ | apply bn_ | apply bd_) | exact hb)⟩⟩
            case measure => simp [intOf]; omega
          · have hbit := bit_zero (v := b') (i := i) (by omega) hbt
            rw [if_neg hbt, List.nil_append] at hE
            have HE1 := am_ hE
            clear hE hbt
            go_wp2
            go_roundw
            case rel => exact ⟨i + 1, out, by go_num, ⟨hi⟩, HE1, ⟨by have := HL.out; omega⟩, ⟨(by (with_reducible repeat first | apply ra_ | apply rn_ | apply rd_); exact HOUT.out)⟩, ⟨(by repeat first | (with_reducible first | exact HB.out | apply ba_ | apply bn_ | apply bd_) | exact HB.out)⟩⟩
            case measure => simp [intOf]; omega
        · obtain rfl : xs.length = i := by have := HI.out; omega
          have ci : decide (xs.length < xs.length) = false := decide_eq_false (by omega)
          have hE := HE.out
          rw [Nat.sub_self, blF, List.append_nil] at hE
          have HE1 := am_ hE
          clear hE
          go_wp2
          go_ret2
          rw [HEN.out, ← HE1.out]
          exact ⟨_, rfl, (by (with_reducible repeat first | apply ra_ | apply rn_ | apply rd_); exact HOUT.out), (by repeat first | (with_reducible first | exact HB.out | apply ba_ | apply bn_ | apply bd_) | exact HB.out)⟩
theorem bitsI_q (q : Nat) (h : q < 1048576) : Go.bits .and .i64 (q : Int) 1 = ((q % 2 : Nat) : Int) := by
  rw [i64_and1 _ (by omega) (by omega)]; omega
set_option maxHeartbeats 8000000 in
set_option maxRecDepth 100000 in
theorem bitsOf_c (s n : Nat) (w : World) (hs : s < 2 ^ n) (hn : n ≤ 20) :
    Calls Try.prog 71 #[.int .i64 s] w fun e w' => ∃ v, e = .returned v ∧ (Kd.int .i64).R 3 w' w.heap.size (fun _ => True) v (blF n s 0) ∧ Below w.heap.size w w' := by
  have hs20 : s < 1048576 := Nat.lt_of_lt_of_le hs (Nat.le_trans (Nat.pow_le_pow_right (by decide) hn) (by decide))
  have HS := am_ hs
  clear hs
  go_enter Try.func71, Try.ntmps71
  go_wp2_with ((with_reducible refine gate_dst (N := 5) rfl ?_); refine Kd.R_lit (Kd.int .i64) w.heap.size 3 (w0 := w) ?hg (N := 5) ?hd (xs := []) (inner := []) (ok := fun _ => True) (okp := fun _ => True) ?hr ?hp (fun _ hk => hk) trivial (by repeat first | (with_reducible first | exact (Below.refl w.heap.size w) | apply ba_ | apply bn_ | apply bd_) | exact (Below.refl w.heap.size w)) (below_size (by repeat first | (with_reducible first | exact (Below.refl w.heap.size w) | apply ba_ | apply bn_ | apply bd_) | exact (Below.refl w.heap.size w))) (by simp) ?_; (case hd => rfl); (case hg => rfl); (case hr => first | (go_simp; done) | (go_simp; rfl)); (case hp => exact (Reps.none _ _)); intro v1 w1 ho hb hgr hnw)
  have HOUT := am_ ho
  have HB := am_ hb
  clear ho hb hgr hnw
  go_loopw [3, 4] (fun v3 v4 wr => ∃ (i : Nat) (out : List Int), v4 = .int .i64 i ∧ Aside0 (i ≤ n) ∧ Aside0 (out ++ blF (n - i) (s / 2 ^ i) i = blF n s 0) ∧ Aside0 (out.length ≤ i) ∧ Aside0 ((Kd.int .i64).R 3 wr w.heap.size (fun _ => True) v3 out) ∧ Aside0 (Below w.heap.size w wr)) (fun _ v4 _ => n - (intOf v4).toNat)
  case atStart => exact ⟨0, [], rfl, ⟨Nat.zero_le _⟩, ⟨by simp⟩, ⟨by simp⟩, HOUT, HB⟩
  case round =>
    clear HOUT HB
    obtain ⟨i, out, rfl, HI, HE, HL, HOUT, HB⟩ := hrel
    have hin := HI.out
    have hE := HE.out
    have hol : out.length ≤ 20 := by have := HL.out; omega
    have hqe : (s : Int) / 2 ^ i = ((s / 2 ^ i : Nat) : Int) := by simp
    have hq20 : s / 2 ^ i < 1048576 := Nat.lt_of_le_of_lt (Nat.div_le_self _ _) hs20
    have hqn : s / 2 ^ i ≠ 0 → i < n := fun h => by
      rcases Nat.lt_or_ge i n with q | q
      · exact q
      · exact absurd (Nat.div_eq_of_lt (Nat.lt_of_lt_of_le HS.out (Nat.pow_le_pow_right (by decide) q))) h
    have hsc : s / 2 ^ (i + 1) = s / 2 ^ i / 2 := div_pow_succ s i
    obtain ⟨q, hq⟩ : ∃ q, q = s / 2 ^ i := ⟨_, rfl⟩
    rw [← hq] at hqe hq20 hqn hsc hE
    clear hq
    by_cases hz : q = 0
    · subst hz
      rw [blF_zero, List.append_nil] at hE
      have HE1 := am_ hE
      clear hE hqn hsc hq20
      go_wp2
      go_ret
      rw [← HE1.out]
      exact ⟨_, rfl, (by (with_reducible repeat first | apply ra_ | apply rn_ | apply rd_); exact HOUT.out), (by repeat first | (with_reducible first | exact HB.out | apply ba_ | apply bn_ | apply bd_) | exact HB.out)⟩
    · have hin1 := hqn hz
      have hq0 : 0 < q := by omega
      have cq : decide (0 < q) = true := decide_eq_true hq0
      rw [show n - i = (n - (i + 1)) + 1 from by omega, blF, ← hsc] at hE
      have hbq := bitsI_q q hq20
      by_cases hbt : q % 2 = 1
      · rw [hbt] at hbq
        have hbit : Go.bits .and .i64 (q : Int) 1 = 1 := hbq
        rw [if_pos hbt, ← List.append_assoc] at hE
        have HE1 := am_ hE
        clear hE hbt hbq hqn hsc
        go_wp2_with ((with_reducible refine gate_builtin (b := .append) (xs := #[.tmp 17, .tmp 19]) rfl ?_); at_builtin; refine Kd.R_append (Kd.int .i64) (w0 := w) w.heap.size rfl (.tmp 17) (.tmp 19) 39 3 (.int .i64 0) 8 rfl Try.underlying39 infoI rfl (by decide) (by omega) u3 out (i : Int) [.int .i64 i] (fun _ => True) (fun _ => False) rfl rfl ?aP (fun _ hk => hk.elim) ?aF ?aO ?aB ?aS ?aL ?_; (case aP => exact rfl); (case aB => exact (by repeat first | (with_reducible first | exact HB.out | apply ba_ | apply bn_ | apply bd_) | exact HB.out)); (case aF => exact (fun _ _ => trivial)); (case aO => exact (by (with_reducible repeat first | apply ra_ | apply rn_ | apply rd_); exact HOUT.out)); (case aS => exact (below_size (by repeat first | (with_reducible first | exact HB.out | apply ba_ | apply bn_ | apply bd_) | exact HB.out))); (case aL => omega); intro v1 w1 ho hb hg hat)
        go_roundw
        case rel => exact ⟨i + 1, out ++ [(i : Int)], by go_num, ⟨hin1⟩, HE1, ⟨by rw [List.length_append, List.length_singleton]; have := HL.out; omega⟩, ⟨(by (with_reducible repeat first | apply ra_ | apply rn_ | apply rd_); exact ho)⟩, ⟨(by repeat first | (with_reducible first | exact hb | apply ba_ | apply bn_ | apply bd_) | exact hb)⟩⟩
        case measure => simp [intOf]; omega
      · rw [show q % 2 = 0 from by omega] at hbq
        have hbit : Go.bits .and .i64 (q : Int) 1 = 0 := hbq
        rw [if_neg hbt, List.nil_append] at hE
        have HE1 := am_ hE
        clear hE hbt hbq hqn hsc
        go_wp2
        go_roundw
        case rel => exact ⟨i + 1, out, by go_num, ⟨hin1⟩, HE1, ⟨by have := HL.out; omega⟩, ⟨(by (with_reducible repeat first | apply ra_ | apply rn_ | apply rd_); exact HOUT.out)⟩, ⟨(by repeat first | (with_reducible first | exact HB.out | apply ba_ | apply bn_ | apply bd_) | exact HB.out)⟩⟩
        case measure => simp [intOf]; omega
set_option maxHeartbeats 8000000 in
set_option maxRecDepth 100000 in
theorem selI_c (A0 : Option Addr) (c0 : Nat) (xs : List S51) (need : Int) (w : World) (hr0 : Kd.C k51 w A0 xs.length xs) (hc0 : xs.length ≤ c0) (hn : xs.length ≤ 1048576) :
    Calls Try.prog 44 #[.slice A0 xs.length c0, .int .i64 need] w fun e w' => ∃ v, e = .returned (.tuple #[v, .bool (selA xs need).2]) ∧ (Kd.int .i64).R 3 w' w.heap.size (fun _ => True) v (selA xs need).1 ∧ Below w.heap.size w w' := by
  obtain ⟨kg, hg⟩ := roundsOf (implValid_ev xs hn)
  have HR0 := am_ hr0
  have HC0 := am_ hc0
  have HB := am_ (Below.refl w.heap.size w)
  clear hr0 hc0
  have hw := within_eq need 0 1000000000
  by_cases g : goodA xs = true
  rotate_left
  · rw [show goodA xs = false from by simpa using g] at hg
    have HG := am_ hg
    rw [show selA xs need = ([], false) from by unfold selA; rw [if_neg (fun v => g v.1)]]
    clear hg hw g
    go_enter Try.func44, Try.ntmps44
    go_wp2_with fail
    refine (impl_IsValidAssets.calls kg _ _ xs false _ (by repeat first | exact (Kd.C_below HR0.out HB.out) | with_reducible refine ca_ ?_ _ | with_reducible refine cn_ ?_ _ | with_reducible refine cd_ ?_) HC0.out HG.out).mono ?_
    rintro e w2 ⟨rfl, hb⟩
    replace HB := am_ (below_step (by repeat first | (with_reducible first | exact HB.out | apply ba_ | apply bn_ | apply bd_) | exact HB.out) hb); clear hb
    go_wp2
    go_ret2
    exact ⟨_, rfl, Kd.R_nil _ _ _ _ _, (by repeat first | (with_reducible first | exact HB.out | apply ba_ | apply bn_ | apply bd_) | exact HB.out)⟩
  rw [g] at hg
  have HG := am_ hg
  clear hg
  by_cases h10 : xs.length ≤ 10
  rotate_left
  · have cx : decide ((10 : Int) < (xs.length : Int)) = true := decide_eq_true (by omega)
    rw [show selA xs need = ([], false) from by unfold selA; rw [if_neg (fun v => h10 v.2.1)]]
    clear hw g h10
    go_enter Try.func44, Try.ntmps44
    go_wp2_with fail
    refine (impl_IsValidAssets.calls kg _ _ xs true _ (by repeat first | exact (Kd.C_below HR0.out HB.out) | with_reducible refine ca_ ?_ _ | with_reducible refine cn_ ?_ _ | with_reducible refine cd_ ?_) HC0.out HG.out).mono ?_
    rintro e w2 ⟨rfl, hb⟩
    replace HB := am_ (below_step (by repeat first | (with_reducible first | exact HB.out | apply ba_ | apply bn_ | apply bd_) | exact HB.out) hb); clear hb
    go_wp2
    go_ret2
    exact ⟨_, rfl, Kd.R_nil _ _ _ _ _, (by repeat first | (with_reducible first | exact HB.out | apply ba_ | apply bn_ | apply bd_) | exact HB.out)⟩
  have cx : decide ((10 : Int) < (xs.length : Int)) = false := decide_eq_false (by omega)
  by_cases hnd : 0 ≤ need ∧ need ≤ 1000000000
  rotate_left
  · rw [decide_eq_false hnd] at hw
    have HW := am_ hw
    rw [show selA xs need = ([], false) from by unfold selA; rw [if_neg (fun v => hnd v.2.2)]]
    clear hw g h10 hnd
    go_enter Try.func44, Try.ntmps44
    go_wp2_with fail
    refine (impl_IsValidAssets.calls kg _ _ xs true _ (by repeat first | exact (Kd.C_below HR0.out HB.out) | with_reducible refine ca_ ?_ _ | with_reducible refine cn_ ?_ _ | with_reducible refine cd_ ?_) HC0.out HG.out).mono ?_
    rintro e w2 ⟨rfl, hb⟩
    replace HB := am_ (below_step (by repeat first | (with_reducible first | exact HB.out | apply ba_ | apply bn_ | apply bd_) | exact HB.out) hb); clear hb
    go_wp2_with fail
    refine (impl_within.calls need 0 1000000000 false _ HW.out).mono ?_
    rintro e w3 ⟨rfl, hb0⟩
    have hb := db_ hb0
    clear hb0
    replace HB := am_ (below_step (by repeat first | (with_reducible first | exact HB.out | apply ba_ | apply bn_ | apply bd_) | exact HB.out) hb); clear hb
    go_wp2
    go_ret2
    exact ⟨_, rfl, Kd.R_nil _ _ _ _ _, (by repeat first | (with_reducible first | exact HB.out | apply ba_ | apply bn_ | apply bd_) | exact HB.out)⟩
  rw [decide_eq_true hnd] at hw
  have HW := am_ hw
  obtain ⟨N, hN⟩ : ∃ N, N = 2 ^ xs.length := ⟨_, rfl⟩
  have hN1 : 1 ≤ N := by rw [hN]; exact Nat.pow_pos (by decide)
  have hN2 : N ≤ 1024 := by rw [hN]; exact Nat.le_trans (Nat.pow_le_pow_right (by decide) h10) (by decide)
  obtain ⟨bst, hbst⟩ : ∃ b, b = pick xs need N 0 (-1) 0 := ⟨_, rfl⟩
  rw [sel_end ⟨g, h10, hnd⟩, ← hN, ← hbst]
  have HF := am_ (show pick xs need (N - 0) 0 (-1) 0 = bst from hbst.symm)
  have HN := am_ hN
  have hNw : wrap64 (2 ^ xs.length) = (N : Int) := by
    rw [show (2 : Int) ^ xs.length = (N : Int) from by rw [HN.out]; simp]
    exact wrapId (by omega)
  have hu : IntKind.u64.wrap (xs.length : Int) = (xs.length : Int) := u64_small _ (by omega) (by omega)
  clear hw g hnd hN hbst
  go_enter Try.func44, Try.ntmps44
  go_wp2_with fail
  refine (impl_IsValidAssets.calls kg _ _ xs true _ (by repeat first | exact (Kd.C_below HR0.out HB.out) | with_reducible refine ca_ ?_ _ | with_reducible refine cn_ ?_ _ | with_reducible refine cd_ ?_) HC0.out HG.out).mono ?_
  rintro e w2 ⟨rfl, hb⟩
  replace HB := am_ (below_step (by repeat first | (with_reducible first | exact HB.out | apply ba_ | apply bn_ | apply bd_) | exact HB.out) hb); clear hb
  go_wp2_with fail
  refine (impl_within.calls need 0 1000000000 true _ HW.out).mono ?_
  rintro e w3 ⟨rfl, hb0⟩
  have hb := db_ hb0
  clear hb0
  replace HB := am_ (below_step (by repeat first | (with_reducible first | exact HB.out | apply ba_ | apply bn_ | apply bd_) | exact HB.out) hb); clear hb
  go_wp2
  rw [hNw]
  clear hNw hu
  go_loopw [6, 7, 28] (fun v7 v8 v10 wr => ∃ (b l : Int) (s : Nat), v7 = .int .i64 b ∧ v8 = .int .i64 l ∧ v10 = .int .i64 s ∧ Aside0 (s ≤ N) ∧ Aside0 (-1 ≤ b ∧ b < (N : Int)) ∧ Aside0 (pick xs need (N - s) s b l = bst) ∧ Aside0 (Below w.heap.size w wr)) (fun _ _ v10 _ => N - (intOf v10).toNat)
  case atStart => exact ⟨-1, 0, 0, rfl, rfl, rfl, ⟨Nat.zero_le _⟩, ⟨by omega⟩, HF, HB⟩
  case round =>
    clear HF HB
    obtain ⟨b, l, s, rfl, rfl, rfl, HSN, HBD, HF, HB⟩ := hrel
    by_cases hsN : s < N
    · have cv : decide (s < N) = true := decide_eq_true hsN
      obtain ⟨SM, hSM⟩ : ∃ q, q = sumSel 0 xs s := ⟨_, rfl⟩
      have HSM := am_ hSM
      have hbl := blF_length xs.length s 0
      obtain ⟨B, hB⟩ : ∃ B, B = blF xs.length s 0 := ⟨_, rfl⟩
      have HS0 := am_ (show sumI xs 0 B = SM from by rw [hB, hSM]; exact sumI_eq xs xs [] 0 s rfl)
      have HBI := am_ (show ∀ k ∈ B, 0 ≤ k ∧ k < (xs.length : Int) from fun k hk => by rw [hB] at hk; have := blF_range xs.length s 0 k hk; omega)
      rw [← hB] at hbl
      have HBB := am_ hB
      go_wp2_with fail
      refine (bitsOf_c s xs.length _ (by rw [← HN.out]; exact hsN) (by omega)).mono ?_
      rw [← HBB.out]
      rintro e w4 ⟨vb, rfl, ho, hb⟩
      have HV := am_ (Kd.R_lower ho (show w.heap.size ≤ _ from below_size (by repeat first | (with_reducible first | exact HB.out | apply ba_ | apply bn_ | apply bd_) | exact HB.out)))
      replace HB := am_ (below_step (by repeat first | (with_reducible first | exact HB.out | apply ba_ | apply bn_ | apply bd_) | exact HB.out) hb); clear hb
      clear ho hB hSM
      obtain ⟨Ab, cb, eb⟩ := Kd.R_slice HV.out
      subst eb
      go_wp2
      go_loopw [9, 34] (fun v9 v34 wr => ∃ (done rest : List Int) (sum : Int), Aside0 (B = done ++ rest) ∧ v34 = .int .i64 done.length ∧ v9 = .int .i64 sum ∧ Aside0 (sumI xs sum rest = SM) ∧ Aside0 ((Kd.int .i64).R 3 wr w.heap.size (fun _ => True) (.slice Ab B.length cb) B) ∧ Aside0 (Below w.heap.size w wr)) (fun _ v34 _ => B.length - (intOf v34).toNat)
      case atStart => exact ⟨[], B, 0, ⟨rfl⟩, rfl, rfl, HS0, ⟨(by (with_reducible repeat first | apply ra_ | apply rn_ | apply rd_); exact HV.out)⟩, ⟨(by repeat first | (with_reducible first | exact HB.out | apply ba_ | apply bn_ | apply bd_) | exact HB.out)⟩⟩
      case round =>
        clear HS0 HV HB
        obtain ⟨done, rest, sum, HX, rfl, rfl, HS1, HV, HB⟩ := hrel
        cases rest with
        | nil =>
          have c : decide (done.length < B.length) = false := decide_eq_false (by have := len_nil HX.out; omega)
          obtain rfl : sum = SM := HS1.out
          clear HS1 HV
          have hstep : N - s = (N - (s + 1)) + 1 := by omega
          by_cases n1 : sum < need
          · have d1 : decide (sum < need) = true := decide_eq_true n1
            have HF1 := am_ (show pick xs need (N - (s + 1)) (s + 1) b l = bst from by have h_ := HF.out; rw [hstep, pick_keep (better_no (fun q => by rw [← HSM.out] at q; omega))] at h_; exact h_)
            clear n1 hstep
            go_wp2
            go_roundw
            case rel => exact ⟨b, l, s + 1, rfl, rfl, by go_num, ⟨hsN⟩, HBD, HF1, ⟨(by repeat first | (with_reducible first | exact HB.out | apply ba_ | apply bn_ | apply bd_) | exact HB.out)⟩⟩
            case measure => simp [intOf]; omega
          have d1 : decide (sum < need) = false := decide_eq_false n1
          by_cases n2 : b < 0
          · have d2 : decide (b < 0) = true := decide_eq_true n2
            have HF1 := am_ (show pick xs need (N - (s + 1)) (s + 1) s sum = bst from by have h_ := HF.out; rw [hstep, pick_take (better_yes (by rw [← HSM.out]; exact ⟨by omega, .inl n2⟩)), ← HSM.out] at h_; exact h_)
            clear n1 n2 hstep
            go_wp2
            go_roundw
            case rel => exact ⟨s, sum, s + 1, rfl, rfl, by go_num, ⟨hsN⟩, ⟨by omega⟩, HF1, ⟨(by repeat first | (with_reducible first | exact HB.out | apply ba_ | apply bn_ | apply bd_) | exact HB.out)⟩⟩
            case measure => simp [intOf]; omega
          have d2 : decide (b < 0) = false := decide_eq_false n2
          by_cases n3 : sum < l
          · have d3 : decide (sum < l) = true := decide_eq_true n3
            have HF1 := am_ (show pick xs need (N - (s + 1)) (s + 1) s sum = bst from by have h_ := HF.out; rw [hstep, pick_take (better_yes (by rw [← HSM.out]; exact ⟨by omega, .inr (.inl n3)⟩)), ← HSM.out] at h_; exact h_)
            clear n1 n2 n3 hstep
            go_wp2
            go_roundw
            case rel => exact ⟨s, sum, s + 1, rfl, rfl, by go_num, ⟨hsN⟩, ⟨by omega⟩, HF1, ⟨(by repeat first | (with_reducible first | exact HB.out | apply ba_ | apply bn_ | apply bd_) | exact HB.out)⟩⟩
            case measure => simp [intOf]; omega
          have d3 : decide (sum < l) = false := decide_eq_false n3
          by_cases n4 : sum = l
          rotate_left
          · have d4 : (sum == l) = false := by simp [n4]
            have d5 : decide (sum = l) = false := decide_eq_false n4
            have HF1 := am_ (show pick xs need (N - (s + 1)) (s + 1) b l = bst from by have h_ := HF.out; rw [hstep, pick_keep (better_no (fun q => by rw [← HSM.out] at q; rcases q.2 with q | q | q <;> omega))] at h_; exact h_)
            clear n1 n2 n3 n4 hstep
            go_wp2
            go_roundw
            case rel => exact ⟨b, l, s + 1, rfl, rfl, by go_num, ⟨hsN⟩, HBD, HF1, ⟨(by repeat first | (with_reducible first | exact HB.out | apply ba_ | apply bn_ | apply bd_) | exact HB.out)⟩⟩
            case measure => simp [intOf]; omega
          have d4 : (sum == l) = true := by simp [n4]
          have d5 : decide (sum = l) = true := decide_eq_true n4
          have hbd := HBD.out
          obtain ⟨b', rfl⟩ : ∃ b' : Nat, b = (b' : Int) := ⟨b.toNat, by omega⟩
          have hus : IntKind.u64.wrap (s : Int) = (s : Int) := u64_small _ (by omega) (by omega)
          have hub : IntKind.u64.wrap (b' : Int) = (b' : Int) := u64_small _ (by omega) (by omega)
          have ho1 := onesCount_ev xs.length s h10 (by rw [← HN.out]; exact hsN)
          have ho2 := onesCount_ev xs.length b' h10 (by rw [← HN.out]; omega)
          rw [hus] at ho1
          rw [hub] at ho2
          obtain ⟨p1, hp1⟩ : ∃ q : Int, q = (pc xs.length s : Int) := ⟨_, rfl⟩
          obtain ⟨p2, hp2⟩ : ∃ q : Int, q = (pc xs.length b' : Int) := ⟨_, rfl⟩
          rw [← hp1] at ho1
          rw [← hp2] at ho2
          have HO1 := am_ ho1
          have HO2 := am_ ho2
          have HP1 := am_ hp1
          have HP2 := am_ hp2
          clear ho1 ho2 hp1 hp2
          by_cases n6 : p1 < p2
          · have d6 : decide (p1 < p2) = true := decide_eq_true n6
            have HF1 := am_ (show pick xs need (N - (s + 1)) (s + 1) s sum = bst from by have h_ := HF.out; rw [hstep, pick_take (better_yes (by rw [← HSM.out]; exact ⟨by omega, .inr (.inr ⟨n4, by rw [Int.toNat_natCast]; have := HP1.out; have := HP2.out; omega⟩)⟩)), ← HSM.out] at h_; exact h_)
            clear n1 n2 n3 n4 n6 hstep hbd
            go_wp2_with fail
            refine (bits_OnesCount.calls (s : Int) p1 _ HO1.out).mono ?_
            rintro e w5 ⟨rfl, hb0⟩
            have hb := db_ hb0
            clear hb0
            replace HB := am_ (below_step (by repeat first | (with_reducible first | exact HB.out | apply ba_ | apply bn_ | apply bd_) | exact HB.out) hb); clear hb
            go_wp2_with fail
            refine (bits_OnesCount.calls (b' : Int) p2 _ HO2.out).mono ?_
            rintro e w6 ⟨rfl, hb0⟩
            have hb := db_ hb0
            clear hb0
            replace HB := am_ (below_step (by repeat first | (with_reducible first | exact HB.out | apply ba_ | apply bn_ | apply bd_) | exact HB.out) hb); clear hb
            go_wp2
            go_roundw
            case rel => exact ⟨s, sum, s + 1, rfl, rfl, by go_num, ⟨hsN⟩, ⟨by omega⟩, HF1, ⟨(by repeat first | (with_reducible first | exact HB.out | apply ba_ | apply bn_ | apply bd_) | exact HB.out)⟩⟩
            case measure => simp [intOf]; omega
          have d6 : decide (p1 < p2) = false := decide_eq_false n6
          have HF1 := am_ (show pick xs need (N - (s + 1)) (s + 1) b' l = bst from by have h_ := HF.out; rw [hstep, pick_keep (better_no (fun q => by rw [← HSM.out] at q; rw [Int.toNat_natCast] at q; have := HP1.out; have := HP2.out; rcases q.2 with q | q | q <;> omega))] at h_; exact h_)
          clear n1 n2 n3 n4 n6 hstep hbd
          go_wp2_with fail
          refine (bits_OnesCount.calls (s : Int) p1 _ HO1.out).mono ?_
          rintro e w5 ⟨rfl, hb0⟩
          have hb := db_ hb0
          clear hb0
          replace HB := am_ (below_step (by repeat first | (with_reducible first | exact HB.out | apply ba_ | apply bn_ | apply bd_) | exact HB.out) hb); clear hb
          go_wp2_with fail
          refine (bits_OnesCount.calls (b' : Int) p2 _ HO2.out).mono ?_
          rintro e w6 ⟨rfl, hb0⟩
          have hb := db_ hb0
          clear hb0
          replace HB := am_ (below_step (by repeat first | (with_reducible first | exact HB.out | apply ba_ | apply bn_ | apply bd_) | exact HB.out) hb); clear hb
          go_wp2
          go_roundw
          case rel => exact ⟨b', l, s + 1, rfl, rfl, by go_num, ⟨hsN⟩, HBD, HF1, ⟨(by repeat first | (with_reducible first | exact HB.out | apply ba_ | apply bn_ | apply bd_) | exact HB.out)⟩⟩
          case measure => simp [intOf]; omega
        | cons a t =>
          have hlt := len_cons HX.out
          have hk := HBI.out a (by rw [HX.out]; simp)
          have k0 := hk.1
          have k1 := hk.2
          have c : decide (done.length < B.length) = true := decide_eq_true (by omega)
          have hdl : (done.length : Int) < (B.length : Int) := by omega
          obtain ⟨adv, e1, hxv⟩ := Kd.at_int (R_C HV.out) (done.length : Int) (by omega) hdl
          cases e1
          rw [rd_at HX.out rfl, Int.toNat_natCast] at hxv
          obtain ⟨x, hx⟩ : ∃ x, x = rd_T51 xs a := ⟨_, rfl⟩
          obtain ⟨ad, e0, hx0, hx1, hx2⟩ := at_T51 HR0.out a k0 k1
          rw [← hx] at hx0 hx1 hx2
          cases e0
          replace hx0 := (HB.out.cell (World.block_lt_of_cell? w _ hx0)).trans hx0
          replace hx1 := (HB.out.cell (World.block_lt_of_cell? w _ hx1)).trans hx1
          replace hx2 := (HB.out.cell (World.block_lt_of_cell? w _ hx2)).trans hx2
          have HS2 := am_ (show sumI xs (wrap64 (sum + valW x)) t = SM from by have h_ := HS1.out; rw [sumI, ← hx] at h_; exact h_)
          clear hlt hk hx
          go_wp2_with fail
          clear hx0 hx1 hx2 hxv
          refine (impl_valueOf.calls _ _ _ _ _ (implValue_eq x)).mono ?_
          rintro e w5 ⟨rfl, hb⟩
          replace HV := am_ (Kd.R_below (by (with_reducible repeat first | apply ra_ | apply rn_ | apply rd_); exact HV.out) hb); replace HB := am_ (below_step (by repeat first | (with_reducible first | exact HB.out | apply ba_ | apply bn_ | apply bd_) | exact HB.out) hb); clear hb
          go_wp2
          go_roundw
          case rel => exact ⟨done ++ [a], t, wrap64 (sum + valW x), ⟨snoc HX.out⟩, by rw [len_snoc], by go_num, HS2, ⟨(by (with_reducible repeat first | apply ra_ | apply rn_ | apply rd_); exact HV.out)⟩, ⟨(by repeat first | (with_reducible first | exact HB.out | apply ba_ | apply bn_ | apply bd_) | exact HB.out)⟩⟩
          case measure => simp [intOf]; omega
    · obtain rfl : N = s := by have := HSN.out; omega
      have cv : decide (N < N) = false := decide_eq_false (by omega)
      have hF := HF.out
      rw [Nat.sub_self, pick] at hF
      obtain rfl : b = bst := hF
      have hbd := HBD.out
      clear HF HSN
      by_cases n2 : b < 0
      · have d2 : decide (b < 0) = true := decide_eq_true n2
        have HE := am_ (show endSel xs.length b = ([], false) from by unfold endSel; rw [if_pos n2])
        clear n2 hbd
        go_wp2
        go_ret2
        rw [HE.out]
        exact ⟨_, rfl, Kd.R_nil _ _ _ _ _, (by repeat first | (with_reducible first | exact HB.out | apply ba_ | apply bn_ | apply bd_) | exact HB.out)⟩
      have d2 : decide (b < 0) = false := decide_eq_false n2
      obtain ⟨b', rfl⟩ : ∃ b' : Nat, b = (b' : Int) := ⟨b.toNat, by omega⟩
      have HEN := am_ (show endSel xs.length (b' : Int) = (blF xs.length b' 0, true) from by unfold endSel; rw [if_neg n2, Int.toNat_natCast])
      have hbN : b' < N := by omega
      clear n2 hbd
      go_wp2_with fail
      refine (bitsOf_c b' xs.length _ (by rw [← HN.out]; exact hbN) (by omega)).mono ?_
      rintro e w4 ⟨vb, rfl, ho, hb⟩
      have HV := am_ (Kd.R_lower ho (show w.heap.size ≤ _ from below_size (by repeat first | (with_reducible first | exact HB.out | apply ba_ | apply bn_ | apply bd_) | exact HB.out)))
      replace HB := am_ (below_step (by repeat first | (with_reducible first | exact HB.out | apply ba_ | apply bn_ | apply bd_) | exact HB.out) hb); clear hb
      go_wp2
      go_ret2
      rw [HEN.out]
      exact ⟨_, rfl, (by (with_reducible repeat first | apply ra_ | apply rn_ | apply rd_); exact HV.out), (by repeat first | (with_reducible first | exact HB.out | apply ba_ | apply bn_ | apply bd_) | exact HB.out)⟩
theorem spec_c (A0 : Option Addr) (c0 : Nat) (xs : List S51) (need : Int) (w : World) (hr0 : Kd.C k51 w A0 xs.length xs) (hc0 : xs.length ≤ c0) (ha0 : 0 < xs.length → ∃ b, A0 = some ⟨b, 0, none⟩) (hn : xs.length ≤ 1048576) :
    Calls Try.prog 43 #[.slice A0 xs.length c0, .int .i64 need] w fun e w' => ∃ v, e = .returned (.tuple #[v, .bool (selA xs need).2]) ∧ (Kd.int .i64).R 3 w' w.heap.size (fun _ => True) v (selA xs need).1 ∧ Below w.heap.size w w' := selS_c A0 c0 xs need w hr0 hc0 hn
theorem impl_c (A0 : Option Addr) (c0 : Nat) (xs : List S51) (need : Int) (w : World) (hr0 : Kd.C k51 w A0 xs.length xs) (hc0 : xs.length ≤ c0) (ha0 : 0 < xs.length → ∃ b, A0 = some ⟨b, 0, none⟩) (hn : xs.length ≤ 1048576) :
    Calls Try.prog 44 #[.slice A0 xs.length c0, .int .i64 need] w fun e w' => ∃ v, e = .returned (.tuple #[v, .bool (selA xs need).2]) ∧ (Kd.int .i64).R 3 w' w.heap.size (fun _ => True) v (selA xs need).1 ∧ Below w.heap.size w w' := selI_c A0 c0 xs need w hr0 hc0 hn
theorem flat_Asset (w : World) (b : Nat) (p q : Nat → Prop) (x : S51) (cs : List Value) (h : k51.M w b p x cs) : k51.M w b q x cs := by
  obtain rfl := k51_openM h
  exact k51_mkM w b q x

set_option maxHeartbeats 16000000 in
set_option maxRecDepth 100000 in
theorem law_c (A0 : Option Addr) (c0 : Nat) (l0 : List S68) (a1 : Int) (w : World) (hr0 : Kd.C k68 w A0 l0.length l0) (hc0 : l0.length ≤ c0) (hi1 : -9223372036854775808 ≤ a1 ∧ a1 ≤ 9223372036854775807) (he0 : ∀ y ∈ l0, (KReads.InI y.f0 ∧ KReads.InI y.f1 ∧ KReads.InI y.f2)) :
    Calls Try.prog 12 #[.slice A0 l0.length c0, .int .i64 a1] w fun e w' => e = .returned (.bool true) ∧ Below w.heap.size w w' := by
  have HR0 := am_ hr0
  have HC0 := am_ hc0
  have HM0 := am_ (Kd.C_max hr0)
  clear hr0 hc0
  by_cases hn0 : l0.length ≤ 1048576
  rotate_left
  · have hn_ := hn0
    have E0 := am_ ((szAssetS_eq l0 HM0.out).trans (congrArg some (if_neg hn0)))
    clear hn_
    go_enter Try.func12, Try.ntmps12
    go_wp2_with (go_at_call 17; refine (laws_szAssetS.calls _ _ l0 1048576 _ _ (by repeat (first | exact HR0.out | (with_reducible refine Kd.C_alloc ?_ _) | (with_reducible refine Kd.C_drewN ?_ _) | (with_reducible refine Kd.C_drew ?_))) HC0.out E0.out).mono ?_; rintro e w0_ ⟨rfl, ⟨q, rfl⟩⟩)
    go_ret
    exact ⟨rfl, (by repeat (first | (with_reducible first | exact Below.refl _ _ | apply below_alloc | apply pw_below_drewN | apply below_drew1) | exact Below.refl _ _))⟩
  have E0 := am_ ((szAssetS_eq l0 HM0.out).trans (congrArg some (if_pos hn0)))
  have cs0 : decide (1048576 - (l0.length : Int) < 0) = false := decide_eq_false (by omega)
  obtain ⟨L0, eL0⟩ : ∃ L_ : List S51, L_ = l0.map cv_Asset := ⟨_, rfl⟩
  have hv0 : L0.length ≤ 1048576 := by rw [eL0]; simpa using hn0
  have EL0 := am_ eL0
  clear eL0
  have HL0 := am_ (show ((selA L0 a1).1).length ≤ 1048576 from Nat.le_trans (selA_length L0 a1) (by decide))
  have HB0 := am_ (Below.refl w.heap.size w)
  obtain ⟨kX0, hX0⟩ := roundsOf (toAssetS_ev l0 hn0)
  rw [← EL0.out] at hX0
  have X0 := am_ hX0
  clear hX0
  obtain ⟨kX1, hX1⟩ := roundsOf (eqIntS_ev (selA L0 a1).1 (by have h_ := HL0.out; omega))
  have X1 := am_ hX1
  clear hX1
  obtain ⟨kX2, hX2⟩ := roundsOf (eqAssetS_ev L0 (by have h_ := hv0; omega))
  have X2 := am_ hX2
  clear hX2
  obtain ⟨kX3, hX3⟩ := roundsOf (markAssetS_ev L0 1 (by omega) (by have h_ := hv0; omega) (by have h_ := hv0; omega))
  obtain ⟨mX3, eX3⟩ : ∃ m_ : Int, m_ = 1 + 3 * ((L0).length : Int) := ⟨_, rfl⟩
  rw [← eX3] at hX3
  obtain ⟨UX3, uX3⟩ : ∃ U_ : List S51, U_ = upS_Asset (L0).length 1 := ⟨_, rfl⟩
  rw [← uX3] at hX3
  have VX3 := am_ (show UX3.length = (L0).length from by rw [uX3, upS_Asset_length])
  have ZX3 := am_ uX3
  clear uX3
  have cX3 : decide (mX3 < 0) = false := decide_eq_false (by omega)
  have PX3 := am_ (show 0 ≤ mX3 ∧ mX3 ≤ 1 + 8388608 from by have h_ := hv0; omega)
  have MX3 := am_ eX3
  clear eX3
  have X3 := am_ hX3
  clear hX3
  obtain ⟨kX4, hX4⟩ := roundsOf (markIntS_ev (selA L0 a1).1 1 (by omega) (by have h_ := HL0.out; omega) (by have h_ := HL0.out; omega))
  obtain ⟨mX4, eX4⟩ : ∃ m_ : Int, m_ = 1 + (((selA L0 a1).1).length : Int) := ⟨_, rfl⟩
  rw [← eX4] at hX4
  obtain ⟨UX4, uX4⟩ : ∃ U_ : List Int, U_ = upFrom ((selA L0 a1).1).length 1 := ⟨_, rfl⟩
  rw [← uX4] at hX4
  have VX4 := am_ (show UX4.length = ((selA L0 a1).1).length from by rw [uX4, upFrom_length])
  have ZX4 := am_ uX4
  clear uX4
  have cX4 : decide (mX4 < 0) = false := decide_eq_false (by omega)
  have PX4 := am_ (show 0 ≤ mX4 ∧ mX4 ≤ 1 + 8388608 from by have h_ := HL0.out; omega)
  have MX4 := am_ eX4
  clear eX4
  have X4 := am_ hX4
  clear hX4
  obtain ⟨kX5, hX5⟩ := roundsOf (heldIntS_ev ((selA L0 a1).1).length 1 (by omega) (by have h_ := HL0.out; omega) (by have h_ := HL0.out; omega))
  rw [← MX4.out, ← ZX4.out] at hX5
  have X5 := am_ hX5
  clear hX5
  go_enter Try.func12, Try.ntmps12
  go_wp2_with (go_at_call 17; refine (laws_szAssetS.calls _ _ l0 1048576 _ _ (by repeat (first | exact HR0.out | (with_reducible refine Kd.C_alloc ?_ _) | (with_reducible refine Kd.C_drewN ?_ _) | (with_reducible refine Kd.C_drew ?_))) HC0.out E0.out).mono ?_; rintro e w0_ ⟨rfl, ⟨q, rfl⟩⟩)
  refine (laws_toAssetS.calls kX0 _ _ l0 _ _ (by repeat (first | exact (Kd.C_below HR0.out HB0.out) | (with_reducible refine Kd.C_alloc ?_ _) | (with_reducible refine Kd.C_drewN ?_ _) | (with_reducible refine Kd.C_drew ?_))) HC0.out X0.out).mono ?_
  rintro e w1 ⟨v, rfl, ho, hb⟩
  have HB1 := am_ (below_step (by repeat (first | (with_reducible first | exact HB0.out | apply below_alloc | apply pw_below_drewN | apply below_drew1) | exact HB0.out)) hb)
  have SZ1 := am_ (show w.heap.size ≤ w1.heap.size from below_size (below_step (by repeat (first | (with_reducible first | exact Below.refl _ _ | apply below_alloc | apply pw_below_drewN | apply below_drew1) | exact Below.refl _ _)) hb))
  have HOt1 := am_ (R_ivw (a := w.heap.size) (b := w.heap.size) ho (below_size (by repeat (first | (with_reducible first | exact Below.refl _ _ | apply below_alloc | apply pw_below_drewN | apply below_drew1) | exact Below.refl _ _))) (below_size (by repeat (first | (with_reducible first | exact HB0.out | apply below_alloc | apply pw_below_drewN | apply below_drew1) | exact HB0.out))))
  obtain ⟨Art1, crt1, ert1⟩ := Kd.R_slice HOt1.out
  subst ert1
  clear ho hb
  go_wp2_with fail
  refine (spec_c _ _ L0 a1 _ (by repeat (first | exact (Kd.R_reads' HOt1.out).2.2 | (with_reducible refine Kd.C_alloc ?_ _) | (with_reducible refine Kd.C_drewN ?_ _) | (with_reducible refine Kd.C_drew ?_))) (Kd.R_reads' HOt1.out).2.1 (fun hp => R_head HOt1.out hp) hv0 ).mono ?_
  rintro e w2 ⟨v, rfl, ho, hb⟩
  have n_ := am_ (Kd.R_below (by (with_reducible repeat (first | apply Kd.R_alloc | apply Kd.R_drewN | apply Kd.R_drew)); exact HOt1.out) hb); clear HOt1; have HOt1 := n_; clear n_
  have HB2 := am_ (below_step (by repeat (first | (with_reducible first | exact HB1.out | apply below_alloc | apply pw_below_drewN | apply below_drew1) | exact HB1.out)) hb)
  have SZ2 := am_ (show w1.heap.size ≤ w2.heap.size from below_size (below_step (by repeat (first | (with_reducible first | exact Below.refl _ _ | apply below_alloc | apply pw_below_drewN | apply below_drew1) | exact Below.refl _ _)) hb))
  have HOw0 := am_ (R_ivw (a := w1.heap.size) (b := w.heap.size) ho (below_size (by repeat (first | (with_reducible first | exact Below.refl _ _ | apply below_alloc | apply pw_below_drewN | apply below_drew1) | exact Below.refl _ _))) (below_size (by repeat (first | (with_reducible first | exact HB1.out | apply below_alloc | apply pw_below_drewN | apply below_drew1) | exact HB1.out))))
  obtain ⟨Arw0, crw0, erw0⟩ := Kd.R_slice HOw0.out
  subst erw0
  clear ho hb
  go_wp2_with fail
  refine (laws_toAssetS.calls kX0 _ _ l0 _ _ (by repeat (first | exact (Kd.C_below HR0.out HB2.out) | (with_reducible refine Kd.C_alloc ?_ _) | (with_reducible refine Kd.C_drewN ?_ _) | (with_reducible refine Kd.C_drew ?_))) HC0.out X0.out).mono ?_
  rintro e w3 ⟨v, rfl, ho, hb⟩
  have n_ := am_ (Kd.R_below (by (with_reducible repeat (first | apply Kd.R_alloc | apply Kd.R_drewN | apply Kd.R_drew)); exact HOw0.out) hb); clear HOw0; have HOw0 := n_; clear n_
  have HB3 := am_ (below_step (by repeat (first | (with_reducible first | exact HB2.out | apply below_alloc | apply pw_below_drewN | apply below_drew1) | exact HB2.out)) hb)
  have SZ3 := am_ (show w2.heap.size ≤ w3.heap.size from below_size (below_step (by repeat (first | (with_reducible first | exact Below.refl _ _ | apply below_alloc | apply pw_below_drewN | apply below_drew1) | exact Below.refl _ _)) hb))
  have HOx0 := am_ (R_ivw (a := w2.heap.size) (b := w.heap.size) ho (below_size (by repeat (first | (with_reducible first | exact Below.refl _ _ | apply below_alloc | apply pw_below_drewN | apply below_drew1) | exact Below.refl _ _))) (below_size (by repeat (first | (with_reducible first | exact HB2.out | apply below_alloc | apply pw_below_drewN | apply below_drew1) | exact HB2.out))))
  obtain ⟨Arx0, crx0, erx0⟩ := Kd.R_slice HOx0.out
  subst erx0
  clear ho hb
  go_wp2_with fail
  refine (impl_c _ _ L0 a1 _ (by repeat (first | exact (Kd.R_reads' HOx0.out).2.2 | (with_reducible refine Kd.C_alloc ?_ _) | (with_reducible refine Kd.C_drewN ?_ _) | (with_reducible refine Kd.C_drew ?_))) (Kd.R_reads' HOx0.out).2.1 (fun hp => R_head HOx0.out hp) hv0 ).mono ?_
  rintro e w4 ⟨v, rfl, ho, hb⟩
  have n_ := am_ (Kd.R_below (by (with_reducible repeat (first | apply Kd.R_alloc | apply Kd.R_drewN | apply Kd.R_drew)); exact HOw0.out) hb); clear HOw0; have HOw0 := n_; clear n_
  have n_ := am_ (Kd.R_below (by (with_reducible repeat (first | apply Kd.R_alloc | apply Kd.R_drewN | apply Kd.R_drew)); exact HOx0.out) hb); clear HOx0; have HOx0 := n_; clear n_
  have HB4 := am_ (below_step (by repeat (first | (with_reducible first | exact HB3.out | apply below_alloc | apply pw_below_drewN | apply below_drew1) | exact HB3.out)) hb)
  have SZ4 := am_ (show w3.heap.size ≤ w4.heap.size from below_size (below_step (by repeat (first | (with_reducible first | exact Below.refl _ _ | apply below_alloc | apply pw_below_drewN | apply below_drew1) | exact Below.refl _ _)) hb))
  have HOg0 := am_ (R_ivw (a := w3.heap.size) (b := w.heap.size) ho (below_size (by repeat (first | (with_reducible first | exact Below.refl _ _ | apply below_alloc | apply pw_below_drewN | apply below_drew1) | exact Below.refl _ _))) (below_size (by repeat (first | (with_reducible first | exact HB3.out | apply below_alloc | apply pw_below_drewN | apply below_drew1) | exact HB3.out))))
  obtain ⟨Arg0, crg0, erg0⟩ := Kd.R_slice HOg0.out
  subst erg0
  clear ho hb
  go_wp2_with fail
  refine (laws_eqIntS.calls kX1 _ _ (selA L0 a1).1 _ _ (selA L0 a1).1 true _ (by repeat (first | exact (Kd.R_reads' HOg0.out).2.2 | (with_reducible refine Kd.C_alloc ?_ _) | (with_reducible refine Kd.C_drewN ?_ _) | (with_reducible refine Kd.C_drew ?_))) (Kd.R_reads' HOg0.out).2.1 (by repeat (first | exact (Kd.R_reads' HOw0.out).2.2 | (with_reducible refine Kd.C_alloc ?_ _) | (with_reducible refine Kd.C_drewN ?_ _) | (with_reducible refine Kd.C_drew ?_))) (Kd.R_reads' HOw0.out).2.1 X1.out).mono ?_
  rintro e w5 ⟨rfl, hb0⟩
  have hb := db_ hb0
  clear hb0
  have n_ := am_ (Kd.R_below (by (with_reducible repeat (first | apply Kd.R_alloc | apply Kd.R_drewN | apply Kd.R_drew)); exact HOw0.out) hb); clear HOw0; have HOw0 := n_; clear n_
  have n_ := am_ (Kd.R_below (by (with_reducible repeat (first | apply Kd.R_alloc | apply Kd.R_drewN | apply Kd.R_drew)); exact HOx0.out) hb); clear HOx0; have HOx0 := n_; clear n_
  have n_ := am_ (Kd.R_below (by (with_reducible repeat (first | apply Kd.R_alloc | apply Kd.R_drewN | apply Kd.R_drew)); exact HOg0.out) hb); clear HOg0; have HOg0 := n_; clear n_
  have HB5 := am_ (below_step (by repeat (first | (with_reducible first | exact HB4.out | apply below_alloc | apply pw_below_drewN | apply below_drew1) | exact HB4.out)) hb)
  have SZ5 := am_ (show w4.heap.size ≤ w5.heap.size from below_size (below_step (by repeat (first | (with_reducible first | exact Below.refl _ _ | apply below_alloc | apply pw_below_drewN | apply below_drew1) | exact Below.refl _ _)) hb))
  clear hb
  go_wp2_with fail
  refine (laws_toAssetS.calls kX0 _ _ l0 _ _ (by repeat (first | exact (Kd.C_below HR0.out HB5.out) | (with_reducible refine Kd.C_alloc ?_ _) | (with_reducible refine Kd.C_drewN ?_ _) | (with_reducible refine Kd.C_drew ?_))) HC0.out X0.out).mono ?_
  rintro e w6 ⟨v, rfl, ho, hb⟩
  have n_ := am_ (Kd.R_below (by (with_reducible repeat (first | apply Kd.R_alloc | apply Kd.R_drewN | apply Kd.R_drew)); exact HOw0.out) hb); clear HOw0; have HOw0 := n_; clear n_
  have n_ := am_ (Kd.R_below (by (with_reducible repeat (first | apply Kd.R_alloc | apply Kd.R_drewN | apply Kd.R_drew)); exact HOx0.out) hb); clear HOx0; have HOx0 := n_; clear n_
  have n_ := am_ (Kd.R_below (by (with_reducible repeat (first | apply Kd.R_alloc | apply Kd.R_drewN | apply Kd.R_drew)); exact HOg0.out) hb); clear HOg0; have HOg0 := n_; clear n_
  have HB6 := am_ (below_step (by repeat (first | (with_reducible first | exact HB5.out | apply below_alloc | apply pw_below_drewN | apply below_drew1) | exact HB5.out)) hb)
  have SZ6 := am_ (show w5.heap.size ≤ w6.heap.size from below_size (below_step (by repeat (first | (with_reducible first | exact Below.refl _ _ | apply below_alloc | apply pw_below_drewN | apply below_drew1) | exact Below.refl _ _)) hb))
  have HOt2 := am_ (R_ivw (a := w5.heap.size) (b := w.heap.size) ho (below_size (by repeat (first | (with_reducible first | exact Below.refl _ _ | apply below_alloc | apply pw_below_drewN | apply below_drew1) | exact Below.refl _ _))) (below_size (by repeat (first | (with_reducible first | exact HB5.out | apply below_alloc | apply pw_below_drewN | apply below_drew1) | exact HB5.out))))
  obtain ⟨Art2, crt2, ert2⟩ := Kd.R_slice HOt2.out
  subst ert2
  clear ho hb
  go_wp2_with fail
  refine (laws_eqAssetS.calls kX2 _ _ L0 _ _ L0 true _ (by repeat (first | exact (Kd.R_reads' HOx0.out).2.2 | (with_reducible refine Kd.C_alloc ?_ _) | (with_reducible refine Kd.C_drewN ?_ _) | (with_reducible refine Kd.C_drew ?_))) (Kd.R_reads' HOx0.out).2.1 (by repeat (first | exact (Kd.R_reads' HOt2.out).2.2 | (with_reducible refine Kd.C_alloc ?_ _) | (with_reducible refine Kd.C_drewN ?_ _) | (with_reducible refine Kd.C_drew ?_))) (Kd.R_reads' HOt2.out).2.1 X2.out).mono ?_
  rintro e w7 ⟨rfl, hb⟩
  have n_ := am_ (Kd.R_below (by (with_reducible repeat (first | apply Kd.R_alloc | apply Kd.R_drewN | apply Kd.R_drew)); exact HOw0.out) hb); clear HOw0; have HOw0 := n_; clear n_
  have n_ := am_ (Kd.R_below (by (with_reducible repeat (first | apply Kd.R_alloc | apply Kd.R_drewN | apply Kd.R_drew)); exact HOx0.out) hb); clear HOx0; have HOx0 := n_; clear n_
  have n_ := am_ (Kd.R_below (by (with_reducible repeat (first | apply Kd.R_alloc | apply Kd.R_drewN | apply Kd.R_drew)); exact HOg0.out) hb); clear HOg0; have HOg0 := n_; clear n_
  have n_ := am_ (Kd.R_below (by (with_reducible repeat (first | apply Kd.R_alloc | apply Kd.R_drewN | apply Kd.R_drew)); exact HOt2.out) hb); clear HOt2; have HOt2 := n_; clear n_
  have HB7 := am_ (below_step (by repeat (first | (with_reducible first | exact HB6.out | apply below_alloc | apply pw_below_drewN | apply below_drew1) | exact HB6.out)) hb)
  have SZ7 := am_ (show w6.heap.size ≤ w7.heap.size from below_size (below_step (by repeat (first | (with_reducible first | exact Below.refl _ _ | apply below_alloc | apply pw_below_drewN | apply below_drew1) | exact Below.refl _ _)) hb))
  clear hb
  go_wp2_with fail
  refine (laws_markAssetS.calls kX3 (Iv w2.heap.size w3.heap.size) _ L0 1 _ _ w _ (by repeat (first | (with_reducible first | exact HB7.out | apply below_alloc | apply pw_below_drewN | apply below_drew1) | exact HB7.out)) (by (with_reducible repeat (first | apply Kd.R_alloc | apply Kd.R_drewN | apply Kd.R_drew)); exact HOx0.out) X3.out).mono ?_
  rintro e w8 ⟨rfl, ho, hb, hk⟩
  have n_ := am_ (Kd.R_kept (by (with_reducible repeat (first | apply Kd.R_alloc | apply Kd.R_drewN | apply Kd.R_drew)); exact HOw0.out) hk (fun k h1_ h2_ => by have a_ := h1_.1; have b_ := h1_.2; have c_ := h2_.1; have d_ := h2_.2; have SZ1_ := SZ1.out; have SZ2_ := SZ2.out; have SZ3_ := SZ3.out; have SZ4_ := SZ4.out; have SZ5_ := SZ5.out; have SZ6_ := SZ6.out; have SZ7_ := SZ7.out; omega)); clear HOw0; have HOw0 := n_; clear n_
  have n_ := am_ (Kd.R_kept (by (with_reducible repeat (first | apply Kd.R_alloc | apply Kd.R_drewN | apply Kd.R_drew)); exact HOg0.out) hk (fun k h1_ h2_ => by have a_ := h1_.1; have b_ := h1_.2; have c_ := h2_.1; have d_ := h2_.2; have SZ1_ := SZ1.out; have SZ2_ := SZ2.out; have SZ3_ := SZ3.out; have SZ4_ := SZ4.out; have SZ5_ := SZ5.out; have SZ6_ := SZ6.out; have SZ7_ := SZ7.out; omega)); clear HOg0; have HOg0 := n_; clear n_
  have HB8 := am_ hb
  have SZ8 := am_ (show w7.heap.size ≤ w8.heap.size from hk.1)
  have n_ := am_ (R_flat flat_Asset ho HOx0.out.1); clear HOx0; have HOx0 := n_; clear n_
  clear ho hb hk
  go_wp2_with fail
  refine (laws_eqIntS.calls kX1 _ _ (selA L0 a1).1 _ _ (selA L0 a1).1 true _ (by repeat (first | exact (Kd.R_reads' HOg0.out).2.2 | (with_reducible refine Kd.C_alloc ?_ _) | (with_reducible refine Kd.C_drewN ?_ _) | (with_reducible refine Kd.C_drew ?_))) (Kd.R_reads' HOg0.out).2.1 (by repeat (first | exact (Kd.R_reads' HOw0.out).2.2 | (with_reducible refine Kd.C_alloc ?_ _) | (with_reducible refine Kd.C_drewN ?_ _) | (with_reducible refine Kd.C_drew ?_))) (Kd.R_reads' HOw0.out).2.1 X1.out).mono ?_
  rintro e w9 ⟨rfl, hb0⟩
  have hb := db_ hb0
  clear hb0
  have n_ := am_ (Kd.R_below (by (with_reducible repeat (first | apply Kd.R_alloc | apply Kd.R_drewN | apply Kd.R_drew)); exact HOw0.out) hb); clear HOw0; have HOw0 := n_; clear n_
  have n_ := am_ (Kd.R_below (by (with_reducible repeat (first | apply Kd.R_alloc | apply Kd.R_drewN | apply Kd.R_drew)); exact HOx0.out) hb); clear HOx0; have HOx0 := n_; clear n_
  have n_ := am_ (Kd.R_below (by (with_reducible repeat (first | apply Kd.R_alloc | apply Kd.R_drewN | apply Kd.R_drew)); exact HOg0.out) hb); clear HOg0; have HOg0 := n_; clear n_
  have HB9 := am_ (below_step (by repeat (first | (with_reducible first | exact HB8.out | apply below_alloc | apply pw_below_drewN | apply below_drew1) | exact HB8.out)) hb)
  have SZ9 := am_ (show w8.heap.size ≤ w9.heap.size from below_size (below_step (by repeat (first | (with_reducible first | exact Below.refl _ _ | apply below_alloc | apply pw_below_drewN | apply below_drew1) | exact Below.refl _ _)) hb))
  clear hb
  go_wp2_with fail
  refine (laws_markIntS.calls kX4 (Iv w3.heap.size w4.heap.size) _ (selA L0 a1).1 1 _ _ w _ (by repeat (first | (with_reducible first | exact HB9.out | apply below_alloc | apply pw_below_drewN | apply below_drew1) | exact HB9.out)) (by (with_reducible repeat (first | apply Kd.R_alloc | apply Kd.R_drewN | apply Kd.R_drew)); exact HOg0.out) X4.out).mono ?_
  rintro e w10 ⟨rfl, ho, hb, hk⟩
  have n_ := am_ (Kd.R_kept (by (with_reducible repeat (first | apply Kd.R_alloc | apply Kd.R_drewN | apply Kd.R_drew)); exact HOw0.out) hk (fun k h1_ h2_ => by have a_ := h1_.1; have b_ := h1_.2; have c_ := h2_.1; have d_ := h2_.2; have SZ1_ := SZ1.out; have SZ2_ := SZ2.out; have SZ3_ := SZ3.out; have SZ4_ := SZ4.out; have SZ5_ := SZ5.out; have SZ6_ := SZ6.out; have SZ7_ := SZ7.out; have SZ8_ := SZ8.out; have SZ9_ := SZ9.out; omega)); clear HOw0; have HOw0 := n_; clear n_
  have n_ := am_ (Kd.R_kept (by (with_reducible repeat (first | apply Kd.R_alloc | apply Kd.R_drewN | apply Kd.R_drew)); exact HOx0.out) hk (fun k h1_ h2_ => by have a_ := h1_.1; have b_ := h1_.2; have c_ := h2_.1; have d_ := h2_.2; have SZ1_ := SZ1.out; have SZ2_ := SZ2.out; have SZ3_ := SZ3.out; have SZ4_ := SZ4.out; have SZ5_ := SZ5.out; have SZ6_ := SZ6.out; have SZ7_ := SZ7.out; have SZ8_ := SZ8.out; have SZ9_ := SZ9.out; omega)); clear HOx0; have HOx0 := n_; clear n_
  have HB10 := am_ hb
  have SZ10 := am_ (show w9.heap.size ≤ w10.heap.size from hk.1)
  have n_ := am_ (R_flat flat_int ho HOg0.out.1); clear HOg0; have HOg0 := n_; clear n_
  clear ho hb hk
  go_wp2_with fail
  refine calls_of_args (args' := #[.slice Arg0 UX4.length crg0, .int .i64 1]) (by rw [VX4.out]) ?_
  refine (laws_heldIntS.calls kX5 _ _ UX4 1 _ _ (by repeat (first | exact (Kd.R_reads' HOg0.out).2.2 | (with_reducible refine Kd.C_alloc ?_ _) | (with_reducible refine Kd.C_drewN ?_ _) | (with_reducible refine Kd.C_drew ?_))) (by rw [VX4.out]; exact (Kd.R_reads' HOg0.out).2.1) X5.out).mono ?_
  rintro e w11 ⟨rfl, hb0⟩
  have hb := db_ hb0
  clear hb0
  have n_ := am_ (Kd.R_below (by (with_reducible repeat (first | apply Kd.R_alloc | apply Kd.R_drewN | apply Kd.R_drew)); exact HOw0.out) hb); clear HOw0; have HOw0 := n_; clear n_
  have n_ := am_ (Kd.R_below (by (with_reducible repeat (first | apply Kd.R_alloc | apply Kd.R_drewN | apply Kd.R_drew)); exact HOx0.out) hb); clear HOx0; have HOx0 := n_; clear n_
  have n_ := am_ (Kd.R_below (by (with_reducible repeat (first | apply Kd.R_alloc | apply Kd.R_drewN | apply Kd.R_drew)); exact HOg0.out) hb); clear HOg0; have HOg0 := n_; clear n_
  have HB11 := am_ (below_step (by repeat (first | (with_reducible first | exact HB10.out | apply below_alloc | apply pw_below_drewN | apply below_drew1) | exact HB10.out)) hb)
  have SZ11 := am_ (show w10.heap.size ≤ w11.heap.size from below_size (below_step (by repeat (first | (with_reducible first | exact Below.refl _ _ | apply below_alloc | apply pw_below_drewN | apply below_drew1) | exact Below.refl _ _)) hb))
  clear hb
  go_wp2_with fail
  refine (laws_toAssetS.calls kX0 _ _ l0 _ _ (by repeat (first | exact (Kd.C_below HR0.out HB11.out) | (with_reducible refine Kd.C_alloc ?_ _) | (with_reducible refine Kd.C_drewN ?_ _) | (with_reducible refine Kd.C_drew ?_))) HC0.out X0.out).mono ?_
  rintro e w12 ⟨v, rfl, ho, hb⟩
  have n_ := am_ (Kd.R_below (by (with_reducible repeat (first | apply Kd.R_alloc | apply Kd.R_drewN | apply Kd.R_drew)); exact HOw0.out) hb); clear HOw0; have HOw0 := n_; clear n_
  have n_ := am_ (Kd.R_below (by (with_reducible repeat (first | apply Kd.R_alloc | apply Kd.R_drewN | apply Kd.R_drew)); exact HOx0.out) hb); clear HOx0; have HOx0 := n_; clear n_
  have n_ := am_ (Kd.R_below (by (with_reducible repeat (first | apply Kd.R_alloc | apply Kd.R_drewN | apply Kd.R_drew)); exact HOg0.out) hb); clear HOg0; have HOg0 := n_; clear n_
  have HB12 := am_ (below_step (by repeat (first | (with_reducible first | exact HB11.out | apply below_alloc | apply pw_below_drewN | apply below_drew1) | exact HB11.out)) hb)
  have SZ12 := am_ (show w11.heap.size ≤ w12.heap.size from below_size (below_step (by repeat (first | (with_reducible first | exact Below.refl _ _ | apply below_alloc | apply pw_below_drewN | apply below_drew1) | exact Below.refl _ _)) hb))
  have HOt3 := am_ (R_ivw (a := w11.heap.size) (b := w.heap.size) ho (below_size (by repeat (first | (with_reducible first | exact Below.refl _ _ | apply below_alloc | apply pw_below_drewN | apply below_drew1) | exact Below.refl _ _))) (below_size (by repeat (first | (with_reducible first | exact HB11.out | apply below_alloc | apply pw_below_drewN | apply below_drew1) | exact HB11.out))))
  obtain ⟨Art3, crt3, ert3⟩ := Kd.R_slice HOt3.out
  subst ert3
  clear ho hb
  go_wp2_with fail
  refine (impl_c _ _ L0 a1 _ (by repeat (first | exact (Kd.R_reads' HOt3.out).2.2 | (with_reducible refine Kd.C_alloc ?_ _) | (with_reducible refine Kd.C_drewN ?_ _) | (with_reducible refine Kd.C_drew ?_))) (Kd.R_reads' HOt3.out).2.1 (fun hp => R_head HOt3.out hp) hv0 ).mono ?_
  rintro e w13 ⟨v, rfl, ho, hb⟩
  have n_ := am_ (Kd.R_below (by (with_reducible repeat (first | apply Kd.R_alloc | apply Kd.R_drewN | apply Kd.R_drew)); exact HOw0.out) hb); clear HOw0; have HOw0 := n_; clear n_
  have n_ := am_ (Kd.R_below (by (with_reducible repeat (first | apply Kd.R_alloc | apply Kd.R_drewN | apply Kd.R_drew)); exact HOx0.out) hb); clear HOx0; have HOx0 := n_; clear n_
  have n_ := am_ (Kd.R_below (by (with_reducible repeat (first | apply Kd.R_alloc | apply Kd.R_drewN | apply Kd.R_drew)); exact HOg0.out) hb); clear HOg0; have HOg0 := n_; clear n_
  have n_ := am_ (Kd.R_below (by (with_reducible repeat (first | apply Kd.R_alloc | apply Kd.R_drewN | apply Kd.R_drew)); exact HOt3.out) hb); clear HOt3; have HOt3 := n_; clear n_
  have HB13 := am_ (below_step (by repeat (first | (with_reducible first | exact HB12.out | apply below_alloc | apply pw_below_drewN | apply below_drew1) | exact HB12.out)) hb)
  have SZ13 := am_ (show w12.heap.size ≤ w13.heap.size from below_size (below_step (by repeat (first | (with_reducible first | exact Below.refl _ _ | apply below_alloc | apply pw_below_drewN | apply below_drew1) | exact Below.refl _ _)) hb))
  have HOh0 := am_ (R_ivw (a := w12.heap.size) (b := w.heap.size) ho (below_size (by repeat (first | (with_reducible first | exact Below.refl _ _ | apply below_alloc | apply pw_below_drewN | apply below_drew1) | exact Below.refl _ _))) (below_size (by repeat (first | (with_reducible first | exact HB12.out | apply below_alloc | apply pw_below_drewN | apply below_drew1) | exact HB12.out))))
  obtain ⟨Arh0, crh0, erh0⟩ := Kd.R_slice HOh0.out
  subst erh0
  clear ho hb
  go_wp2_with fail
  refine (laws_eqIntS.calls kX1 _ _ (selA L0 a1).1 _ _ (selA L0 a1).1 true _ (by repeat (first | exact (Kd.R_reads' HOh0.out).2.2 | (with_reducible refine Kd.C_alloc ?_ _) | (with_reducible refine Kd.C_drewN ?_ _) | (with_reducible refine Kd.C_drew ?_))) (Kd.R_reads' HOh0.out).2.1 (by repeat (first | exact (Kd.R_reads' HOw0.out).2.2 | (with_reducible refine Kd.C_alloc ?_ _) | (with_reducible refine Kd.C_drewN ?_ _) | (with_reducible refine Kd.C_drew ?_))) (Kd.R_reads' HOw0.out).2.1 X1.out).mono ?_
  rintro e w14 ⟨rfl, hb0⟩
  have hb := db_ hb0
  clear hb0
  have n_ := am_ (Kd.R_below (by (with_reducible repeat (first | apply Kd.R_alloc | apply Kd.R_drewN | apply Kd.R_drew)); exact HOw0.out) hb); clear HOw0; have HOw0 := n_; clear n_
  have n_ := am_ (Kd.R_below (by (with_reducible repeat (first | apply Kd.R_alloc | apply Kd.R_drewN | apply Kd.R_drew)); exact HOx0.out) hb); clear HOx0; have HOx0 := n_; clear n_
  have n_ := am_ (Kd.R_below (by (with_reducible repeat (first | apply Kd.R_alloc | apply Kd.R_drewN | apply Kd.R_drew)); exact HOg0.out) hb); clear HOg0; have HOg0 := n_; clear n_
  have n_ := am_ (Kd.R_below (by (with_reducible repeat (first | apply Kd.R_alloc | apply Kd.R_drewN | apply Kd.R_drew)); exact HOh0.out) hb); clear HOh0; have HOh0 := n_; clear n_
  have HB14 := am_ (below_step (by repeat (first | (with_reducible first | exact HB13.out | apply below_alloc | apply pw_below_drewN | apply below_drew1) | exact HB13.out)) hb)
  have SZ14 := am_ (show w13.heap.size ≤ w14.heap.size from below_size (below_step (by repeat (first | (with_reducible first | exact Below.refl _ _ | apply below_alloc | apply pw_below_drewN | apply below_drew1) | exact Below.refl _ _)) hb))
  clear hb
  go_wp2_with fail
  refine calls_of_args (args' := #[.slice Arg0 UX4.length crg0, .int .i64 1]) (by rw [VX4.out]) ?_
  refine (laws_heldIntS.calls kX5 _ _ UX4 1 _ _ (by repeat (first | exact (Kd.R_reads' HOg0.out).2.2 | (with_reducible refine Kd.C_alloc ?_ _) | (with_reducible refine Kd.C_drewN ?_ _) | (with_reducible refine Kd.C_drew ?_))) (by rw [VX4.out]; exact (Kd.R_reads' HOg0.out).2.1) X5.out).mono ?_
  rintro e w15 ⟨rfl, hb0⟩
  have hb := db_ hb0
  clear hb0
  have n_ := am_ (Kd.R_below (by (with_reducible repeat (first | apply Kd.R_alloc | apply Kd.R_drewN | apply Kd.R_drew)); exact HOw0.out) hb); clear HOw0; have HOw0 := n_; clear n_
  have n_ := am_ (Kd.R_below (by (with_reducible repeat (first | apply Kd.R_alloc | apply Kd.R_drewN | apply Kd.R_drew)); exact HOx0.out) hb); clear HOx0; have HOx0 := n_; clear n_
  have n_ := am_ (Kd.R_below (by (with_reducible repeat (first | apply Kd.R_alloc | apply Kd.R_drewN | apply Kd.R_drew)); exact HOg0.out) hb); clear HOg0; have HOg0 := n_; clear n_
  have n_ := am_ (Kd.R_below (by (with_reducible repeat (first | apply Kd.R_alloc | apply Kd.R_drewN | apply Kd.R_drew)); exact HOh0.out) hb); clear HOh0; have HOh0 := n_; clear n_
  have HB15 := am_ (below_step (by repeat (first | (with_reducible first | exact HB14.out | apply below_alloc | apply pw_below_drewN | apply below_drew1) | exact HB14.out)) hb)
  have SZ15 := am_ (show w14.heap.size ≤ w15.heap.size from below_size (below_step (by repeat (first | (with_reducible first | exact Below.refl _ _ | apply below_alloc | apply pw_below_drewN | apply below_drew1) | exact Below.refl _ _)) hb))
  clear hb
  go_wp2
  go_ret
  exact ⟨rfl, (by repeat (first | (with_reducible first | exact HB15.out | apply below_alloc | apply pw_below_drewN | apply below_drew1) | exact HB15.out))⟩
end Go.Proofs.Ytiaakolalhdelaa.O
