/- Walks of our own, a part of those for the law FnExactCompoundInterest: each function's contract in plain Lean. No condition beyond the bounds that each contract names. -/
import Derived.Test.YtacfepaemphdgaaPureFnExactCompoundInterest
namespace Go.Proofs.Ytacfepaemphdgaa.O
open Go.RowKit Go.Proofs.YtacfepaemphdgaaW.PrintWords Go.Proofs.YtacfepaemphdgaaW.PrintLast Go.Proofs.YtacfepaemphdgaaW.PrintMore Go.Proofs.Ytacfepaemphdgaa.PL15X Go.Proofs.Ytacfepaemphdgaa.EvKit Go.Proofs.Ytacfepaemphdgaa.Pure
set_option linter.unusedVariables false
set_option linter.unusedSimpArgs false
attribute [local go_sem] max2_int min2_int max_two min_two max_three min_three max_four min_four
theorem am_ {p : Prop} (h : p) : Aside0 p := ⟨h⟩
theorem db_ {w w' : World} (h : Drawn0 w w') : Below w.heap.size w w' := Drawn0.below h
/-- A number of rounds at which a printed function answers. -/
theorem roundsOf {α : Type} {g : Nat → Option α} {r : α} (h : Ev g r) : ∃ k, g k = some r := Ev.rounds h
theorem cellsOf {w : World} {b o : Nat} {xs : List Int} (h : (Kd.int .i64).C w (some ⟨b, o, none⟩) xs.length xs) : ∀ j, j < xs.length → w.cell? ⟨b, o + j, none⟩ = some (.int .i64 xs[j]!) := by
  intro j hj
  obtain ⟨ad, e, hc⟩ := Kd.at_int h (j : Int) (by omega) (by omega)
  injection e with e
  subst e
  rw [add_at] at hc
  rw [Int.toNat_natCast] at hc
  rw [hc, rd, Int.toNat_natCast, List.getD_eq_getElem?_getD, List.getElem?_eq_getElem hj, List.getElem!_eq_getElem?_getD, List.getElem?_eq_getElem hj]
  rfl
/-- Between two numbers. -/
def Iv (a b : Nat) (k : Nat) : Prop := a ≤ k ∧ k < b
theorem R_iv {α : Type} {d : Kd α} {e base : Nat} {ok : Nat → Prop} {w : World} {v : Value} {xs : List α} (h : d.R e w base ok v xs) : d.R e w base (Iv base w.heap.size) v xs := Kd.R_mono (Kd.R_bound h) (fun _ hk => ⟨hk.2.1, hk.2.2.1⟩)
/-- Where a row of one's own that is not empty begins. -/
theorem R_head {α : Type} {d : Kd α} {e base : Nat} {ok : Nat → Prop} {w : World} {A : Option Addr} {n c : Nat} {xs : List α} (h : d.R e w base ok (.slice A n c) xs) (hp : 0 < xs.length) : ∃ b, A = some ⟨b, 0, none⟩ := by
  obtain ⟨g, cap, e1, _⟩ := Kd.R_form h hp
  injection e1 with e1
  exact ⟨g, e1⟩
theorem R_ivw {α : Type} {d : Kd α} {e base a b : Nat} {ok : Nat → Prop} {w : World} {v : Value} {xs : List α} (h : d.R e w base ok v xs) (ha : a ≤ base) (hb : b ≤ base) : d.R e w b (Iv a w.heap.size) v xs := Kd.R_lower (Kd.R_mono (Kd.R_bound h) (fun _ hk => ⟨Nat.le_trans ha hk.2.1, hk.2.2.1⟩)) hb
/-- A row whose elements hold no rows lies in its own block alone. -/
theorem R_flat {α : Type} {d : Kd α} {e base : Nat} {ok ok' : Nat → Prop} {w : World} {v : Value} {xs : List α} (hf : ∀ (w : World) (b : Nat) (p q : Nat → Prop) x cs, d.M w b p x cs → d.M w b q x cs) (h : d.R e w base ok v xs) (h0 : ∀ k, v.ownBlock = some k → ok' k) : d.R e w base ok' v xs := ⟨h0, h.2.imp_ (fun _ _ hp => hf _ _ _ _ _ _ hp)⟩
theorem flat_int (w : World) (b : Nat) (p q : Nat → Prop) (x : Int) (cs : List Value) (h : (Kd.int .i64).M w b p x cs) : (Kd.int .i64).M w b q x cs := h
theorem cellsOfD {w : World} {b o m : Nat} {xs : List Int} (h : (Kd.int .i64).C w (some ⟨b, o, none⟩) m xs) : ∀ j, j < xs.length → w.cell? ⟨b, o + j, none⟩ = some (.int .i64 (xs.getD j 0)) := by
  intro j hj
  have hl := Kd.C_len h
  obtain ⟨ad, e, hc⟩ := Kd.at_int h (j : Int) (by omega) (by omega)
  injection e with e
  subst e
  rw [add_at, Int.toNat_natCast] at hc
  exact hc
theorem R_C {α : Type} {d : Kd α} {e base : Nat} {ok : Nat → Prop} {w : World} {A : Option Addr} {n c : Nat} {xs : List α} (h : d.R e w base ok (.slice A n c) xs) : d.C w A n xs := by
  obtain ⟨rfl, _, hc⟩ := Kd.R_reads' h
  exact hc
theorem R_cap {α : Type} {d : Kd α} {e base : Nat} {ok : Nat → Prop} {w : World} {A : Option Addr} {n c : Nat} {xs : List α} (h : d.R e w base ok (.slice A n c) xs) : n ≤ c := (Kd.R_reads' h).2.1
theorem R_same {α : Type} {d : Kd α} {e base : Nat} {ok : Nat → Prop} {w w1 : World} {v : Value} {xs : List α} (h : d.R e w base ok v xs) (hg : w.grownBy w1 none) : d.R e w1 base ok v xs := Kd.R_grown h hg (fun _ _ e => by cases e)
theorem R_block {α : Type} {d : Kd α} {e base g n c : Nat} {ok : Nat → Prop} {w : World} {xs : List α} (h : d.R e w base ok (.slice (some ⟨g, 0, none⟩) n c) xs) (hp : 0 < n) : ∃ cells, w.heap[g]? = some (.cells cells e (0, 0)) := by
  obtain ⟨e1, _, _⟩ := Kd.R_reads' h
  obtain ⟨g', cap, e2, _, _, cells, h3⟩ := Kd.R_form h (by omega)
  injection e2 with e2 _ _
  injection e2 with e2
  injection e2 with e2
  subst e2
  exact ⟨cells, h3⟩
theorem ba_ {w W : World} (h : Below w.heap.size w W) (o : Obj) : Below w.heap.size w (W.alloc o) := below_alloc h o
theorem bn_ {B : Nat} {w W : World} (h : Below B w W) (n : Nat) : Below B w (W.drewN n) := pw_below_drewN h n
theorem bd_ {B : Nat} {w W : World} (h : Below B w W) : Below B w W.drew := below_drew1 h
theorem ca_ {α : Type} {d : Kd α} {w : World} {xs : List α} {A : Option Addr} {n : Nat} (h : d.C w A n xs) (o : Obj) : d.C (w.alloc o) A n xs := Kd.C_alloc h o
theorem cn_ {α : Type} {d : Kd α} {w : World} {xs : List α} {A : Option Addr} {n : Nat} (h : d.C w A n xs) (m : Nat) : d.C (w.drewN m) A n xs := Kd.C_drewN h m
theorem cd_ {α : Type} {d : Kd α} {w : World} {xs : List α} {A : Option Addr} {n : Nat} (h : d.C w A n xs) : d.C w.drew A n xs := Kd.C_drew h
theorem ra_ {α : Type} {d : Kd α} {w : World} {xs : List α} {e : TypeId} {base : Nat} {ok : Nat → Prop} {v : Value} (h : d.R e w base ok v xs) (o : Obj) : d.R e (w.alloc o) base ok v xs := Kd.R_alloc h o
theorem rn_ {α : Type} {d : Kd α} {w : World} {xs : List α} {e : TypeId} {base : Nat} {ok : Nat → Prop} {v : Value} (h : d.R e w base ok v xs) (m : Nat) : d.R e (w.drewN m) base ok v xs := Kd.R_drewN h m
theorem rd_ {α : Type} {d : Kd α} {w : World} {xs : List α} {e : TypeId} {base : Nat} {ok : Nat → Prop} {v : Value} (h : d.R e w base ok v xs) : d.R e w.drew base ok v xs := Kd.R_drew h
theorem ka_ {w : World} {g : Nat} {o : Obj} (h : w.heap[g]? = some o) (o' : Obj) : (w.alloc o').heap[g]? = some o := blk_alloc h o'
theorem kd_ {w : World} {g : Nat} {o : Obj} (h : w.heap[g]? = some o) : w.drew.heap[g]? = some o := blk_drew h
theorem kn_ {w : World} {g : Nat} {o : Obj} (h : w.heap[g]? = some o) (n : Nat) : (w.drewN n).heap[g]? = some o := blk_drewN h n
theorem kf_ {w : World} {g : Nat} {t : TypeId} {cs : Array Value} (h : w.heap[g]? = some (.cells cs t (0, 0))) {p : Addr} (hp : g ≠ p.block) (u : Value) : (w.setCell p u).heap[g]? = some (.cells cs t (0, 0)) := blk_far h hp u
set_option maxHeartbeats 8000000 in
set_option maxRecDepth 100000 in
theorem multS_c (n d n1 d1 : Int) (w : World) :
    Calls Try.prog 103 #[.agg #[.int .i64 n, .int .i64 d], .agg #[.int .i64 n1, .int .i64 d1]] w fun e w' => e = .returned (.tuple #[.agg #[.int .i64 (multA n d n1 d1).1, .int .i64 (multA n d n1 d1).2.1], .bool (multA n d n1 d1).2.2]) ∧ Below w.heap.size w w' := by
  have HB := am_ (Below.refl w.heap.size w)
  obtain ⟨ka, ha⟩ := roundsOf (specIsF_ev n d)
  obtain ⟨kb, hbb⟩ := roundsOf (specIsF_ev n1 d1)
  have g0_ := ha
  by_cases c0_ : okF n d
  · rw [decide_eq_true c0_] at g0_
    have G1 := am_ g0_
    clear g0_
    have g1_ := hbb
    by_cases c1_ : okF n1 d1
    · rw [decide_eq_true c1_] at g1_
      have G2 := am_ g1_
      clear g1_
      have hm := okF_mul c0_ c1_
      have hfin : multA n d n1 d1 = fracA (n * n1) (d * d1) := by unfold multA; rw [if_pos ⟨c0_, c1_⟩]
      rw [hfin]
      obtain ⟨P, hP⟩ : ∃ P, P = n * n1 := ⟨_, rfl⟩
      obtain ⟨Q, hQ⟩ : ∃ Q, Q = d * d1 := ⟨_, rfl⟩
      rw [← hP, ← hQ] at hm ⊢
      have hw1 : IntKind.i64.wrap (n * n1) = P := by rw [← hP]; exact IntWalk.i64_in _ (by omega)
      have hw2 : IntKind.i64.wrap (d * d1) = Q := by rw [← hQ]; exact IntWalk.i64_in _ (by omega)
      obtain ⟨FR, hFR⟩ : ∃ F, F = fracA P Q := ⟨_, rfl⟩
      have HFR := am_ hFR.symm
      rw [← hFR]
      obtain ⟨n2, d2, o2⟩ := FR
      clear hFR
      obtain ⟨k, hk⟩ := roundsOf (specReduce_ev P Q (by omega) (by omega) (by omega))
      rw [HFR.out] at hk
      have HK := am_ hk
      clear hk HFR hfin hP hQ c0_ c1_
      go_enter Try.func103, Try.ntmps103
      go_wp2_with (first
        | (((with_reducible refine gate_dst (N := 2) rfl ?_); refine box_event ?hg (N := 2) ?hd (cs := #[.int .i64 n,.int .i64 d]) (t := 24) ?hr ?_; (case hd => rfl); (case hg => rfl); (case hr => first | (go_simp; done) | (go_simp; rfl))); intro g1 hg w_g1 hbox hb; have n_ := am_ (below_step (by repeat first | (with_reducible first | exact HB.out | apply ba_ | apply bn_ | apply bd_) | exact HB.out) hb); have BKg1 := am_ hbox; have GEg1 := am_ (show w.heap.size ≤ g1 from by rw [hg]; exact below_size (by repeat first | (with_reducible first | exact HB.out | apply ba_ | apply bn_ | apply bd_) | exact HB.out)); clear HB ; have HB := n_; clear n_ hb hbox hg)
        | (((with_reducible refine gate_dst (N := 3) rfl ?_); refine box_event ?hg (N := 3) ?hd (cs := #[.int .i64 n1,.int .i64 d1]) (t := 24) ?hr ?_; (case hd => rfl); (case hg => rfl); (case hr => first | (go_simp; done) | (go_simp; rfl))); intro g2 hg w_g2 hbox hb; have n_ := am_ (below_step (by repeat first | (with_reducible first | exact HB.out | apply ba_ | apply bn_ | apply bd_ | refine below_set ?_ GEg1.out) | exact HB.out) hb); have m_g1 := am_ (blk_below (blk_below BKg1.out (by repeat first | exact Below.refl _ _ | apply ba_ | apply bn_ | apply bd_)) hb); have NEg1_g2 := am_ (show g1 ≠ g2 from by rw [hg]; exact Nat.ne_of_lt (blk_lt (blk_below BKg1.out (by repeat first | exact Below.refl _ _ | apply ba_ | apply bn_ | apply bd_)))); have NEg2_g1 := am_ (Ne.symm NEg1_g2.out); have BKg2 := am_ hbox; have GEg2 := am_ (show w.heap.size ≤ g2 from by rw [hg]; exact below_size (by repeat first | (with_reducible first | exact HB.out | apply ba_ | apply bn_ | apply bd_ | refine below_set ?_ GEg1.out) | exact HB.out)); clear HB BKg1; have HB := n_; clear n_ hb hbox hg; have BKg1 := m_g1; clear m_g1)
        | ((((with_reducible refine gate_dst (N := 4) rfl ?_); refine box_event ?hg (N := 4) ?hd (cs := #[.int .i64 0,.int .i64 0]) (t := 24) ?hr ?_; (case hd => rfl); (case hg => rfl); (case hr => first | (go_simp; done) | (go_simp; rfl))); intro g3 hg w_g3 hbox hb; have n_ := am_ (below_step (by repeat first | (with_reducible first | exact HB.out | apply ba_ | apply bn_ | apply bd_ | refine below_set ?_ GEg1.out | refine below_set ?_ GEg2.out) | exact HB.out) hb); have m_g1 := am_ (blk_below (blk_below BKg1.out (by repeat first | exact Below.refl _ _ | apply ba_ | apply bn_ | apply bd_)) hb); have NEg1_g3 := am_ (show g1 ≠ g3 from by rw [hg]; exact Nat.ne_of_lt (blk_lt (blk_below BKg1.out (by repeat first | exact Below.refl _ _ | apply ba_ | apply bn_ | apply bd_)))); have NEg3_g1 := am_ (Ne.symm NEg1_g3.out); have m_g2 := am_ (blk_below (blk_below BKg2.out (by repeat first | exact Below.refl _ _ | apply ba_ | apply bn_ | apply bd_)) hb); have NEg2_g3 := am_ (show g2 ≠ g3 from by rw [hg]; exact Nat.ne_of_lt (blk_lt (blk_below BKg2.out (by repeat first | exact Below.refl _ _ | apply ba_ | apply bn_ | apply bd_)))); have NEg3_g2 := am_ (Ne.symm NEg2_g3.out); have BKg3 := am_ hbox; have GEg3 := am_ (show w.heap.size ≤ g3 from by rw [hg]; exact below_size (by repeat first | (with_reducible first | exact HB.out | apply ba_ | apply bn_ | apply bd_ | refine below_set ?_ GEg1.out | refine below_set ?_ GEg2.out) | exact HB.out)); clear HB BKg1 BKg2; have HB := n_; clear n_ hb hbox hg; have BKg1 := m_g1; clear m_g1; have BKg2 := m_g2; clear m_g2); have yg1_0 : w_g3.cell? ⟨g1, 0, none⟩ = some (.int .i64 n) := (blk_cell BKg1.out 0).trans rfl; have fg1_0 := blk_frozen BKg1.out 0; have yg1_1 : w_g3.cell? ⟨g1, 1, none⟩ = some (.int .i64 d) := (blk_cell BKg1.out 1).trans rfl; have fg1_1 := blk_frozen BKg1.out 1)
        )
      clear yg1_0 fg1_0 yg1_1 fg1_1
      refine (spec_l2Fraction.calls ka n d true _ G1.out).mono ?_
      rintro e w1_ ⟨rfl, hb⟩
      replace BKg1 := am_ (blk_below (blk_below BKg1.out (by repeat first | exact Below.refl _ _ | apply ba_ | apply bn_ | apply bd_)) hb); replace BKg2 := am_ (blk_below (blk_below BKg2.out (by repeat first | exact Below.refl _ _ | apply ba_ | apply bn_ | apply bd_)) hb); replace BKg3 := am_ (blk_below (blk_below BKg3.out (by repeat first | exact Below.refl _ _ | apply ba_ | apply bn_ | apply bd_)) hb); replace HB := am_ (below_step (by repeat first | (with_reducible first | exact HB.out | apply ba_ | apply bn_ | apply bd_) | exact HB.out) hb); clear hb
      have yg2_0 : w1_.cell? ⟨g2, 0, none⟩ = some (.int .i64 n1) := (blk_cell BKg2.out 0).trans rfl; have fg2_0 := blk_frozen BKg2.out 0; have yg2_1 : w1_.cell? ⟨g2, 1, none⟩ = some (.int .i64 d1) := (blk_cell BKg2.out 1).trans rfl; have fg2_1 := blk_frozen BKg2.out 1
      go_wp2_with fail
      clear yg2_0 fg2_0 yg2_1 fg2_1
      refine (spec_l2Fraction.calls kb n1 d1 true _ G2.out).mono ?_
      rintro e w2_ ⟨rfl, hb⟩
      replace BKg1 := am_ (blk_below (blk_below BKg1.out (by repeat first | exact Below.refl _ _ | apply ba_ | apply bn_ | apply bd_)) hb); replace BKg2 := am_ (blk_below (blk_below BKg2.out (by repeat first | exact Below.refl _ _ | apply ba_ | apply bn_ | apply bd_)) hb); replace BKg3 := am_ (blk_below (blk_below BKg3.out (by repeat first | exact Below.refl _ _ | apply ba_ | apply bn_ | apply bd_)) hb); replace HB := am_ (below_step (by repeat first | (with_reducible first | exact HB.out | apply ba_ | apply bn_ | apply bd_) | exact HB.out) hb); clear hb
      have yg1_0 : w2_.cell? ⟨g1, 0, none⟩ = some (.int .i64 n) := (blk_cell BKg1.out 0).trans rfl; have fg1_0 := blk_frozen BKg1.out 0; have yg1_1 : w2_.cell? ⟨g1, 1, none⟩ = some (.int .i64 d) := (blk_cell BKg1.out 1).trans rfl; have fg1_1 := blk_frozen BKg1.out 1
      have yg2_0 : w2_.cell? ⟨g2, 0, none⟩ = some (.int .i64 n1) := (blk_cell BKg2.out 0).trans rfl; have fg2_0 := blk_frozen BKg2.out 0; have yg2_1 : w2_.cell? ⟨g2, 1, none⟩ = some (.int .i64 d1) := (blk_cell BKg2.out 1).trans rfl; have fg2_1 := blk_frozen BKg2.out 1
      go_wp2_with fail
      clear yg1_0 fg1_0 yg1_1 fg1_1
      clear yg2_0 fg2_0 yg2_1 fg2_1
      refine (spec_l2Reduce.calls k P Q n2 d2 o2 _ HK.out).mono ?_
      rintro e w3_ ⟨rfl, hb⟩
      replace BKg1 := am_ (blk_below (blk_below BKg1.out (by repeat first | exact Below.refl _ _ | apply ba_ | apply bn_ | apply bd_)) hb); replace BKg2 := am_ (blk_below (blk_below BKg2.out (by repeat first | exact Below.refl _ _ | apply ba_ | apply bn_ | apply bd_)) hb); replace BKg3 := am_ (blk_below (blk_below BKg3.out (by repeat first | exact Below.refl _ _ | apply ba_ | apply bn_ | apply bd_)) hb); replace HB := am_ (below_step (by repeat first | (with_reducible first | exact HB.out | apply ba_ | apply bn_ | apply bd_) | exact HB.out) hb); clear hb
      have yg3_0 : w3_.cell? ⟨g3, 0, none⟩ = some (.int .i64 0) := (blk_cell BKg3.out 0).trans rfl; have fg3_0 := blk_frozen BKg3.out 0; have yg3_1 : w3_.cell? ⟨g3, 1, none⟩ = some (.int .i64 0) := (blk_cell BKg3.out 1).trans rfl; have fg3_1 := blk_frozen BKg3.out 1
      go_wp2
      refine bodyPost_ret (results_ct rfl _ _ g3 24 #[.int .i64 n2, .int .i64 d2] (0, 0) _ rfl (by (with_reducible repeat first | refine kn_ ?_ _ | refine kd_ ?_ | refine ka_ ?_ _); refine blk_put (cs := #[.int .i64 n2, .int .i64 0]) ?_ 1 _ rfl; (with_reducible repeat first | refine kn_ ?_ _ | refine kd_ ?_ | refine ka_ ?_ _); refine blk_put (cs := #[.int .i64 0, .int .i64 0]) ?_ 0 _ rfl; (with_reducible repeat first | refine kn_ ?_ _ | refine kd_ ?_ | refine ka_ ?_ _); exact BKg3.out) Try.underlying24 rfl (by kernel_rfl)) rfl ?_
      exact ⟨rfl, (by repeat first | (with_reducible first | exact HB.out | apply ba_ | apply bn_ | apply bd_ | refine below_set ?_ GEg1.out | refine below_set ?_ GEg2.out | refine below_set ?_ GEg3.out) | exact HB.out)⟩
    · rw [decide_eq_false c1_] at g1_
      have G2 := am_ g1_
      clear g1_
      have hfin : multA n d n1 d1 = (0, 0, false) := by unfold multA; rw [if_neg (fun v => c1_ v.2)]
      rw [hfin]
      clear hfin
      go_enter Try.func103, Try.ntmps103
      go_wp2_with (first
        | (((with_reducible refine gate_dst (N := 2) rfl ?_); refine box_event ?hg (N := 2) ?hd (cs := #[.int .i64 n,.int .i64 d]) (t := 24) ?hr ?_; (case hd => rfl); (case hg => rfl); (case hr => first | (go_simp; done) | (go_simp; rfl))); intro g1 hg w_g1 hbox hb; have n_ := am_ (below_step (by repeat first | (with_reducible first | exact HB.out | apply ba_ | apply bn_ | apply bd_) | exact HB.out) hb); have BKg1 := am_ hbox; have GEg1 := am_ (show w.heap.size ≤ g1 from by rw [hg]; exact below_size (by repeat first | (with_reducible first | exact HB.out | apply ba_ | apply bn_ | apply bd_) | exact HB.out)); clear HB ; have HB := n_; clear n_ hb hbox hg)
        | (((with_reducible refine gate_dst (N := 3) rfl ?_); refine box_event ?hg (N := 3) ?hd (cs := #[.int .i64 n1,.int .i64 d1]) (t := 24) ?hr ?_; (case hd => rfl); (case hg => rfl); (case hr => first | (go_simp; done) | (go_simp; rfl))); intro g2 hg w_g2 hbox hb; have n_ := am_ (below_step (by repeat first | (with_reducible first | exact HB.out | apply ba_ | apply bn_ | apply bd_ | refine below_set ?_ GEg1.out) | exact HB.out) hb); have m_g1 := am_ (blk_below (blk_below BKg1.out (by repeat first | exact Below.refl _ _ | apply ba_ | apply bn_ | apply bd_)) hb); have NEg1_g2 := am_ (show g1 ≠ g2 from by rw [hg]; exact Nat.ne_of_lt (blk_lt (blk_below BKg1.out (by repeat first | exact Below.refl _ _ | apply ba_ | apply bn_ | apply bd_)))); have NEg2_g1 := am_ (Ne.symm NEg1_g2.out); have BKg2 := am_ hbox; have GEg2 := am_ (show w.heap.size ≤ g2 from by rw [hg]; exact below_size (by repeat first | (with_reducible first | exact HB.out | apply ba_ | apply bn_ | apply bd_ | refine below_set ?_ GEg1.out) | exact HB.out)); clear HB BKg1; have HB := n_; clear n_ hb hbox hg; have BKg1 := m_g1; clear m_g1)
        | ((((with_reducible refine gate_dst (N := 4) rfl ?_); refine box_event ?hg (N := 4) ?hd (cs := #[.int .i64 0,.int .i64 0]) (t := 24) ?hr ?_; (case hd => rfl); (case hg => rfl); (case hr => first | (go_simp; done) | (go_simp; rfl))); intro g3 hg w_g3 hbox hb; have n_ := am_ (below_step (by repeat first | (with_reducible first | exact HB.out | apply ba_ | apply bn_ | apply bd_ | refine below_set ?_ GEg1.out | refine below_set ?_ GEg2.out) | exact HB.out) hb); have m_g1 := am_ (blk_below (blk_below BKg1.out (by repeat first | exact Below.refl _ _ | apply ba_ | apply bn_ | apply bd_)) hb); have NEg1_g3 := am_ (show g1 ≠ g3 from by rw [hg]; exact Nat.ne_of_lt (blk_lt (blk_below BKg1.out (by repeat first | exact Below.refl _ _ | apply ba_ | apply bn_ | apply bd_)))); have NEg3_g1 := am_ (Ne.symm NEg1_g3.out); have m_g2 := am_ (blk_below (blk_below BKg2.out (by repeat first | exact Below.refl _ _ | apply ba_ | apply bn_ | apply bd_)) hb); have NEg2_g3 := am_ (show g2 ≠ g3 from by rw [hg]; exact Nat.ne_of_lt (blk_lt (blk_below BKg2.out (by repeat first | exact Below.refl _ _ | apply ba_ | apply bn_ | apply bd_)))); have NEg3_g2 := am_ (Ne.symm NEg2_g3.out); have BKg3 := am_ hbox; have GEg3 := am_ (show w.heap.size ≤ g3 from by rw [hg]; exact below_size (by repeat first | (with_reducible first | exact HB.out | apply ba_ | apply bn_ | apply bd_ | refine below_set ?_ GEg1.out | refine below_set ?_ GEg2.out) | exact HB.out)); clear HB BKg1 BKg2; have HB := n_; clear n_ hb hbox hg; have BKg1 := m_g1; clear m_g1; have BKg2 := m_g2; clear m_g2); have yg1_0 : w_g3.cell? ⟨g1, 0, none⟩ = some (.int .i64 n) := (blk_cell BKg1.out 0).trans rfl; have fg1_0 := blk_frozen BKg1.out 0; have yg1_1 : w_g3.cell? ⟨g1, 1, none⟩ = some (.int .i64 d) := (blk_cell BKg1.out 1).trans rfl; have fg1_1 := blk_frozen BKg1.out 1)
        )
      clear yg1_0 fg1_0 yg1_1 fg1_1
      refine (spec_l2Fraction.calls ka n d true _ G1.out).mono ?_
      rintro e w1_ ⟨rfl, hb⟩
      replace BKg1 := am_ (blk_below (blk_below BKg1.out (by repeat first | exact Below.refl _ _ | apply ba_ | apply bn_ | apply bd_)) hb); replace BKg2 := am_ (blk_below (blk_below BKg2.out (by repeat first | exact Below.refl _ _ | apply ba_ | apply bn_ | apply bd_)) hb); replace BKg3 := am_ (blk_below (blk_below BKg3.out (by repeat first | exact Below.refl _ _ | apply ba_ | apply bn_ | apply bd_)) hb); replace HB := am_ (below_step (by repeat first | (with_reducible first | exact HB.out | apply ba_ | apply bn_ | apply bd_) | exact HB.out) hb); clear hb
      have yg2_0 : w1_.cell? ⟨g2, 0, none⟩ = some (.int .i64 n1) := (blk_cell BKg2.out 0).trans rfl; have fg2_0 := blk_frozen BKg2.out 0; have yg2_1 : w1_.cell? ⟨g2, 1, none⟩ = some (.int .i64 d1) := (blk_cell BKg2.out 1).trans rfl; have fg2_1 := blk_frozen BKg2.out 1
      go_wp2_with fail
      clear yg2_0 fg2_0 yg2_1 fg2_1
      refine (spec_l2Fraction.calls kb n1 d1 false _ G2.out).mono ?_
      rintro e w2_ ⟨rfl, hb⟩
      replace BKg1 := am_ (blk_below (blk_below BKg1.out (by repeat first | exact Below.refl _ _ | apply ba_ | apply bn_ | apply bd_)) hb); replace BKg2 := am_ (blk_below (blk_below BKg2.out (by repeat first | exact Below.refl _ _ | apply ba_ | apply bn_ | apply bd_)) hb); replace BKg3 := am_ (blk_below (blk_below BKg3.out (by repeat first | exact Below.refl _ _ | apply ba_ | apply bn_ | apply bd_)) hb); replace HB := am_ (below_step (by repeat first | (with_reducible first | exact HB.out | apply ba_ | apply bn_ | apply bd_) | exact HB.out) hb); clear hb
      have yg3_0 : w2_.cell? ⟨g3, 0, none⟩ = some (.int .i64 0) := (blk_cell BKg3.out 0).trans rfl; have fg3_0 := blk_frozen BKg3.out 0; have yg3_1 : w2_.cell? ⟨g3, 1, none⟩ = some (.int .i64 0) := (blk_cell BKg3.out 1).trans rfl; have fg3_1 := blk_frozen BKg3.out 1
      go_wp2
      refine bodyPost_ret (results_ct rfl _ _ g3 24 #[.int .i64 0, .int .i64 0] (0, 0) _ rfl (by (with_reducible repeat first | refine kn_ ?_ _ | refine kd_ ?_ | refine ka_ ?_ _); refine blk_put (cs := #[.int .i64 0, .int .i64 0]) ?_ 1 _ rfl; (with_reducible repeat first | refine kn_ ?_ _ | refine kd_ ?_ | refine ka_ ?_ _); refine blk_put (cs := #[.int .i64 0, .int .i64 0]) ?_ 0 _ rfl; (with_reducible repeat first | refine kn_ ?_ _ | refine kd_ ?_ | refine ka_ ?_ _); exact BKg3.out) Try.underlying24 rfl (by kernel_rfl)) rfl ?_
      exact ⟨rfl, (by repeat first | (with_reducible first | exact HB.out | apply ba_ | apply bn_ | apply bd_ | refine below_set ?_ GEg1.out | refine below_set ?_ GEg2.out | refine below_set ?_ GEg3.out) | exact HB.out)⟩
  · rw [decide_eq_false c0_] at g0_
    have G1 := am_ g0_
    clear g0_
    have hfin : multA n d n1 d1 = (0, 0, false) := by unfold multA; rw [if_neg (fun v => c0_ v.1)]
    rw [hfin]
    clear hfin
    go_enter Try.func103, Try.ntmps103
    go_wp2_with (first
      | (((with_reducible refine gate_dst (N := 2) rfl ?_); refine box_event ?hg (N := 2) ?hd (cs := #[.int .i64 n,.int .i64 d]) (t := 24) ?hr ?_; (case hd => rfl); (case hg => rfl); (case hr => first | (go_simp; done) | (go_simp; rfl))); intro g1 hg w_g1 hbox hb; have n_ := am_ (below_step (by repeat first | (with_reducible first | exact HB.out | apply ba_ | apply bn_ | apply bd_) | exact HB.out) hb); have BKg1 := am_ hbox; have GEg1 := am_ (show w.heap.size ≤ g1 from by rw [hg]; exact below_size (by repeat first | (with_reducible first | exact HB.out | apply ba_ | apply bn_ | apply bd_) | exact HB.out)); clear HB ; have HB := n_; clear n_ hb hbox hg)
      | (((with_reducible refine gate_dst (N := 3) rfl ?_); refine box_event ?hg (N := 3) ?hd (cs := #[.int .i64 n1,.int .i64 d1]) (t := 24) ?hr ?_; (case hd => rfl); (case hg => rfl); (case hr => first | (go_simp; done) | (go_simp; rfl))); intro g2 hg w_g2 hbox hb; have n_ := am_ (below_step (by repeat first | (with_reducible first | exact HB.out | apply ba_ | apply bn_ | apply bd_ | refine below_set ?_ GEg1.out) | exact HB.out) hb); have m_g1 := am_ (blk_below (blk_below BKg1.out (by repeat first | exact Below.refl _ _ | apply ba_ | apply bn_ | apply bd_)) hb); have NEg1_g2 := am_ (show g1 ≠ g2 from by rw [hg]; exact Nat.ne_of_lt (blk_lt (blk_below BKg1.out (by repeat first | exact Below.refl _ _ | apply ba_ | apply bn_ | apply bd_)))); have NEg2_g1 := am_ (Ne.symm NEg1_g2.out); have BKg2 := am_ hbox; have GEg2 := am_ (show w.heap.size ≤ g2 from by rw [hg]; exact below_size (by repeat first | (with_reducible first | exact HB.out | apply ba_ | apply bn_ | apply bd_ | refine below_set ?_ GEg1.out) | exact HB.out)); clear HB BKg1; have HB := n_; clear n_ hb hbox hg; have BKg1 := m_g1; clear m_g1)
      | ((((with_reducible refine gate_dst (N := 4) rfl ?_); refine box_event ?hg (N := 4) ?hd (cs := #[.int .i64 0,.int .i64 0]) (t := 24) ?hr ?_; (case hd => rfl); (case hg => rfl); (case hr => first | (go_simp; done) | (go_simp; rfl))); intro g3 hg w_g3 hbox hb; have n_ := am_ (below_step (by repeat first | (with_reducible first | exact HB.out | apply ba_ | apply bn_ | apply bd_ | refine below_set ?_ GEg1.out | refine below_set ?_ GEg2.out) | exact HB.out) hb); have m_g1 := am_ (blk_below (blk_below BKg1.out (by repeat first | exact Below.refl _ _ | apply ba_ | apply bn_ | apply bd_)) hb); have NEg1_g3 := am_ (show g1 ≠ g3 from by rw [hg]; exact Nat.ne_of_lt (blk_lt (blk_below BKg1.out (by repeat first | exact Below.refl _ _ | apply ba_ | apply bn_ | apply bd_)))); have NEg3_g1 := am_ (Ne.symm NEg1_g3.out); have m_g2 := am_ (blk_below (blk_below BKg2.out (by repeat first | exact Below.refl _ _ | apply ba_ | apply bn_ | apply bd_)) hb); have NEg2_g3 := am_ (show g2 ≠ g3 from by rw [hg]; exact Nat.ne_of_lt (blk_lt (blk_below BKg2.out (by repeat first | exact Below.refl _ _ | apply ba_ | apply bn_ | apply bd_)))); have NEg3_g2 := am_ (Ne.symm NEg2_g3.out); have BKg3 := am_ hbox; have GEg3 := am_ (show w.heap.size ≤ g3 from by rw [hg]; exact below_size (by repeat first | (with_reducible first | exact HB.out | apply ba_ | apply bn_ | apply bd_ | refine below_set ?_ GEg1.out | refine below_set ?_ GEg2.out) | exact HB.out)); clear HB BKg1 BKg2; have HB := n_; clear n_ hb hbox hg; have BKg1 := m_g1; clear m_g1; have BKg2 := m_g2; clear m_g2); have yg1_0 : w_g3.cell? ⟨g1, 0, none⟩ = some (.int .i64 n) := (blk_cell BKg1.out 0).trans rfl; have fg1_0 := blk_frozen BKg1.out 0; have yg1_1 : w_g3.cell? ⟨g1, 1, none⟩ = some (.int .i64 d) := (blk_cell BKg1.out 1).trans rfl; have fg1_1 := blk_frozen BKg1.out 1)
      )
    clear yg1_0 fg1_0 yg1_1 fg1_1
    refine (spec_l2Fraction.calls ka n d false _ G1.out).mono ?_
    rintro e w1_ ⟨rfl, hb⟩
    replace BKg1 := am_ (blk_below (blk_below BKg1.out (by repeat first | exact Below.refl _ _ | apply ba_ | apply bn_ | apply bd_)) hb); replace BKg2 := am_ (blk_below (blk_below BKg2.out (by repeat first | exact Below.refl _ _ | apply ba_ | apply bn_ | apply bd_)) hb); replace BKg3 := am_ (blk_below (blk_below BKg3.out (by repeat first | exact Below.refl _ _ | apply ba_ | apply bn_ | apply bd_)) hb); replace HB := am_ (below_step (by repeat first | (with_reducible first | exact HB.out | apply ba_ | apply bn_ | apply bd_) | exact HB.out) hb); clear hb
    have yg3_0 : w1_.cell? ⟨g3, 0, none⟩ = some (.int .i64 0) := (blk_cell BKg3.out 0).trans rfl; have fg3_0 := blk_frozen BKg3.out 0; have yg3_1 : w1_.cell? ⟨g3, 1, none⟩ = some (.int .i64 0) := (blk_cell BKg3.out 1).trans rfl; have fg3_1 := blk_frozen BKg3.out 1
    go_wp2
    refine bodyPost_ret (results_ct rfl _ _ g3 24 #[.int .i64 0, .int .i64 0] (0, 0) _ rfl (by (with_reducible repeat first | refine kn_ ?_ _ | refine kd_ ?_ | refine ka_ ?_ _); refine blk_put (cs := #[.int .i64 0, .int .i64 0]) ?_ 1 _ rfl; (with_reducible repeat first | refine kn_ ?_ _ | refine kd_ ?_ | refine ka_ ?_ _); refine blk_put (cs := #[.int .i64 0, .int .i64 0]) ?_ 0 _ rfl; (with_reducible repeat first | refine kn_ ?_ _ | refine kd_ ?_ | refine ka_ ?_ _); exact BKg3.out) Try.underlying24 rfl (by kernel_rfl)) rfl ?_
    exact ⟨rfl, (by repeat first | (with_reducible first | exact HB.out | apply ba_ | apply bn_ | apply bd_ | refine below_set ?_ GEg1.out | refine below_set ?_ GEg2.out | refine below_set ?_ GEg3.out) | exact HB.out)⟩
set_option maxHeartbeats 8000000 in
set_option maxRecDepth 100000 in
theorem thirtyS_c (a b : Int) (ha : 0 ≤ a ∧ a ≤ 36524) (hb : 0 ≤ b ∧ b ≤ 36524) (w : World) :
    Calls Try.prog 133 #[.int .i64 a, .int .i64 b] w fun e w' => e = .returned (.int .i64 (thirtyA a b)) ∧ Below w.heap.size w w' := by
  have HB := am_ (Below.refl w.heap.size w)
  obtain ⟨k1, h1⟩ := roundsOf (specDateC_ev a ha)
  obtain ⟨k2, h2⟩ := roundsOf (specDateC_ev b hb)
  obtain ⟨y, m, d, y', m', d', n, n', e1, e2, e3, e4, e5, b1, b2, b3, b4, b5, b6, b7, b8⟩ := thirty_parts ha hb
  rw [e1] at h1
  rw [e2] at h2
  rw [e5]
  have H1 := am_ h1
  have H2 := am_ h2
  have H3 := am_ (show spec_l1Least.f d 30 = some n from by rw [l1Least_eq, e3])
  have H4 := am_ (show spec_l1Least.f d' 30 = some n' from by rw [l1Least_eq, e4])
  clear h1 h2 e1 e2 e3 e4 e5 ha hb
  go_enter Try.func133, Try.ntmps133
  go_wp2_with fail
  refine (spec_l3Date.calls k1 a y m d _ H1.out).mono ?_
  rintro e w1 ⟨rfl, hb⟩
  replace HB := am_ (below_step (by repeat first | (with_reducible first | exact HB.out | apply ba_ | apply bn_ | apply bd_) | exact HB.out) hb); clear hb
  go_wp2_with fail
  refine (spec_l3Date.calls k2 b y' m' d' _ H2.out).mono ?_
  rintro e w2 ⟨rfl, hb⟩
  replace HB := am_ (below_step (by repeat first | (with_reducible first | exact HB.out | apply ba_ | apply bn_ | apply bd_) | exact HB.out) hb); clear hb
  go_upto_region 2 with (first
    | (((with_reducible refine gate_dst (N := 5) rfl ?_); refine box_event ?hg (N := 5) ?hd (cs := #[.int .i64 0, .int .i64 0, .int .i64 0]) (t := 125) ?hr ?_; (case hd => rfl); (case hg => rfl); (case hr => first | (go_simp; done) | (go_simp; rfl))); intro g1 hg w_g1 hbox hb; have n_ := am_ (below_step (by repeat first | (with_reducible first | exact HB.out | apply ba_ | apply bn_ | apply bd_) | exact HB.out) hb); have BKg1 := am_ hbox; have GEg1 := am_ (show w.heap.size ≤ g1 from by rw [hg]; exact below_size (by repeat first | (with_reducible first | exact HB.out | apply ba_ | apply bn_ | apply bd_) | exact HB.out)); clear HB ; have HB := n_; clear n_ hb hbox hg)
    | ((((with_reducible refine gate_dst (N := 6) rfl ?_); refine box_event ?hg (N := 6) ?hd (cs := #[.int .i64 0, .int .i64 0, .int .i64 0]) (t := 125) ?hr ?_; (case hd => rfl); (case hg => rfl); (case hr => first | (go_simp; done) | (go_simp; rfl))); intro g2 hg w_g2 hbox hb; have n_ := am_ (below_step (by repeat first | (with_reducible first | exact HB.out | apply ba_ | apply bn_ | apply bd_ | refine below_set ?_ GEg1.out) | exact HB.out) hb); have m_g1 := am_ (blk_below (blk_below BKg1.out (by repeat first | exact Below.refl _ _ | apply ba_ | apply bn_ | apply bd_)) hb); have NEg1_g2 := am_ (show g1 ≠ g2 from by rw [hg]; exact Nat.ne_of_lt (blk_lt (blk_below BKg1.out (by repeat first | exact Below.refl _ _ | apply ba_ | apply bn_ | apply bd_)))); have NEg2_g1 := am_ (Ne.symm NEg1_g2.out); have BKg2 := am_ hbox; have GEg2 := am_ (show w.heap.size ≤ g2 from by rw [hg]; exact below_size (by repeat first | (with_reducible first | exact HB.out | apply ba_ | apply bn_ | apply bd_ | refine below_set ?_ GEg1.out) | exact HB.out)); clear HB BKg1; have HB := n_; clear n_ hb hbox hg; have BKg1 := m_g1; clear m_g1); have yg1_0 : w_g2.cell? ⟨g1, 0, none⟩ = some (.int .i64 0) := (blk_cell BKg1.out 0).trans rfl; have fg1_0 := blk_frozen BKg1.out 0; have yg1_1 : w_g2.cell? ⟨g1, 1, none⟩ = some (.int .i64 0) := (blk_cell BKg1.out 1).trans rfl; have fg1_1 := blk_frozen BKg1.out 1; have yg1_2 : w_g2.cell? ⟨g1, 2, none⟩ = some (.int .i64 0) := (blk_cell BKg1.out 2).trans rfl; have fg1_2 := blk_frozen BKg1.out 2; have yg2_0 : w_g2.cell? ⟨g2, 0, none⟩ = some (.int .i64 0) := (blk_cell BKg2.out 0).trans rfl; have fg2_0 := blk_frozen BKg2.out 0; have yg2_1 : w_g2.cell? ⟨g2, 1, none⟩ = some (.int .i64 0) := (blk_cell BKg2.out 1).trans rfl; have fg2_1 := blk_frozen BKg2.out 1; have yg2_2 : w_g2.cell? ⟨g2, 2, none⟩ = some (.int .i64 0) := (blk_cell BKg2.out 2).trans rfl; have fg2_2 := blk_frozen BKg2.out 2; have hn1 := NEg1_g2.out; have hn2 := NEg2_g1.out))
  go_quiet ((go_at_call 75; first | exact Calls.quiet_of ((spec_l1Least.calls d 30 n _ H3.out).mono fun e w' ⟨he, ⟨n, hw⟩⟩ => ⟨he, n, hw⟩) | exact Calls.quiet_of ((spec_l1Least.calls d' 30 n' _ H4.out).mono fun e w' ⟨he, ⟨n, hw⟩⟩ => ⟨he, n, hw⟩)))
  go_wp2
  go_ret
  exact ⟨rfl, (by repeat first | (with_reducible first | exact HB.out | apply ba_ | apply bn_ | apply bd_ | refine below_set ?_ GEg1.out | refine below_set ?_ GEg2.out) | exact HB.out)⟩
set_option maxRecDepth 100000 in
theorem fldDate0 (x0_ x1_ x2_ : Value) (W_ : World) : (Instr.field 125 (.agg #[x0_, x1_, x2_]) 0).run Try.prog W_ = .ok x0_ W_ := by first | rfl | kernel_rfl
set_option maxHeartbeats 8000000 in
set_option maxRecDepth 100000 in
theorem yearsS_c (a0 b : Int) (ha : 0 ≤ a0 ∧ a0 ≤ b) (hb : b ≤ 36524) (w : World) :
    Calls Try.prog 134 #[.int .i64 a0, .int .i64 b] w fun e w' => (∃ l o, e = .returned (.tuple #[.int .i64 l, .int .i64 o]) ∧ 365 * l + 366 * o = numA a0 (b - a0).toNat ∧ 0 ≤ l ∧ 0 ≤ o ∧ l + o ≤ 40000) ∧ Below w.heap.size w w' := by
  have HB := am_ (Below.refl w.heap.size w)
  obtain ⟨NUM, hN⟩ : ∃ N, N = numA a0 (b - a0).toNat := ⟨_, rfl⟩
  rw [← hN]
  have HN := am_ (show 0 ≤ a0 ∧ a0 ≤ b ∧ (0 : Int) ≤ 0 ∧ (0 : Int) ≤ 0 ∧ 0 + 0 + (b - a0) ≤ 40000 ∧ 365 * 0 + 366 * 0 + numA a0 (b - a0).toNat = NUM from ⟨ha.1, ha.2, by omega, by omega, by omega, by rw [hN]; omega⟩)
  have hfld := fldDate0
  clear hN ha
  go_enter Try.func134, Try.ntmps134
  go_wp2
  go_loopw [0, 6, 7] (fun v0 v6 v7 wr => ∃ a l o : Int, v0 = .int .i64 a ∧ v6 = .int .i64 l ∧ v7 = .int .i64 o ∧ Aside0 (0 ≤ a ∧ a ≤ b ∧ 0 ≤ l ∧ 0 ≤ o ∧ l + o + (b - a) ≤ 40000 ∧ 365 * l + 366 * o + numA a (b - a).toNat = NUM) ∧ Aside0 (Below w.heap.size w wr)) (fun v0 _ _ _ => (b - intOf v0).toNat)
  case atStart => exact ⟨a0, 0, 0, rfl, rfl, rfl, HN, HB⟩
  case round =>
    clear HN HB
    obtain ⟨a, l, o, rfl, rfl, rfl, HI, HB⟩ := hrel
    obtain ⟨i1, i2, i3, i4, i5, i6⟩ := HI.out
    by_cases hab : a < b
    · have cb : decide (a < b) = true := decide_eq_true hab
      obtain ⟨Y, M, D, t, hdt, hY, hdb, he, ht, hat, htb, hnum⟩ := years_step i1 hb hab
      obtain ⟨k1, h1⟩ := roundsOf (specDateC_ev a (by omega))
      rw [hdt] at h1
      obtain ⟨k2, h2⟩ := roundsOf (specDay_ev Y 12 31 (by omega) (by omega) (by omega))
      rw [he] at h2
      obtain ⟨N1, hN1⟩ : ∃ N, N = dbyA (Y + 1) := ⟨_, rfl⟩
      rw [← hN1] at h2 hdb ht
      have h3 := l1Least_eq b N1
      rw [← ht] at h3
      have H1 := am_ h1
      have H2 := am_ h2
      have H3 := am_ h3
      have HNUM := am_ hnum
      have HI6 := am_ i6
      have hm4 : Int.tmod Y 4 = Y % 4 := Int.tmod_eq_emod_of_nonneg (by omega)
      clear h1 h2 h3 hnum hdt he ht hN1 i6
      go_wp2_with fail
      refine (spec_l3Date.calls k1 a Y M D _ H1.out).mono ?_
      rintro e w1 ⟨rfl, hb⟩
      replace HB := am_ (below_step (by repeat first | (with_reducible first | exact HB.out | apply ba_ | apply bn_ | apply bd_) | exact HB.out) hb); clear hb
      go_wp2_with fail
      refine (spec_l3Day.calls k2 Y 12 31 _ _ H2.out).mono ?_
      rintro e w2 ⟨rfl, hb⟩
      replace HB := am_ (below_step (by repeat first | (with_reducible first | exact HB.out | apply ba_ | apply bn_ | apply bd_) | exact HB.out) hb); clear hb
      go_wp2_with fail
      refine (spec_l1Least.calls b N1 t _ H3.out).mono ?_
      rintro e w3 ⟨rfl, hb0⟩
      have hb := db_ hb0
      replace HB := am_ (below_step (by repeat first | (with_reducible first | exact HB.out | apply ba_ | apply bn_ | apply bd_) | exact HB.out) hb); clear hb
      clear hb0
      by_cases c4 : Y % 4 = 0
      · have hc4 : (Y % 4 == 0) = true := by rw [beq_iff_eq]; exact c4
        have HS := am_ (show 0 ≤ t ∧ t ≤ b ∧ 0 ≤ l + t - a ∧ 0 ≤ o ∧ l + t - a + o + (b - t) ≤ 40000 ∧ 365 * (l + t - a) + 366 * o + numA t (b - t).toNat = NUM from ⟨by omega, htb, by omega, i4, by omega, by have := HI6.out; have hn := HNUM.out; rw [if_pos c4] at hn; omega⟩)
        clear c4
        go_wp2
        go_roundw
        case rel => exact ⟨t, l + t - a, o, by go_num, by go_num, by go_num, HS, ⟨(by repeat first | (with_reducible first | exact HB.out | apply ba_ | apply bn_ | apply bd_) | exact HB.out)⟩⟩
        case measure => simp [intOf]; omega
      · have hc4 : (Y % 4 == 0) = false := by rw [beq_eq_false_iff_ne]; exact c4
        have HS := am_ (show 0 ≤ t ∧ t ≤ b ∧ 0 ≤ l ∧ 0 ≤ o + t - a ∧ l + (o + t - a) + (b - t) ≤ 40000 ∧ 365 * l + 366 * (o + t - a) + numA t (b - t).toNat = NUM from ⟨by omega, htb, i3, by omega, by omega, by have := HI6.out; have hn := HNUM.out; rw [if_neg c4] at hn; omega⟩)
        clear c4
        go_wp2
        go_roundw
        case rel => exact ⟨t, l, o + t - a, by go_num, by go_num, by go_num, HS, ⟨(by repeat first | (with_reducible first | exact HB.out | apply ba_ | apply bn_ | apply bd_) | exact HB.out)⟩⟩
        case measure => simp [intOf]; omega
    · have cb : decide (a < b) = false := decide_eq_false hab
      have HS := am_ (show 365 * l + 366 * o = NUM ∧ 0 ≤ l ∧ 0 ≤ o ∧ l + o ≤ 40000 from ⟨by rw [show (b - a).toNat = 0 from by omega] at i6; simp only [numA] at i6; omega, i3, i4, by omega⟩)
      go_wp2
      go_ret2
      exact ⟨⟨l, o, rfl, HS.out⟩, HB.out⟩
set_option maxHeartbeats 8000000 in
set_option maxRecDepth 100000 in
theorem countS_c (a b c : Int) (hv : validC a b c) (w : World) :
    Calls Try.prog 125 #[.int .i64 a, .int .i64 b, .int .i64 c] w fun e w' => e = .returned (.tuple #[.agg #[.int .i64 (countA a b c).1, .int .i64 (countA a b c).2.1], .bool (countA a b c).2.2]) ∧ Below w.heap.size w w' := by
  have HB := am_ (Below.refl w.heap.size w)
  obtain ⟨ha, hb, hab, hc⟩ := hv
  have ht := thirty_bd a b ha hb hab
  have hnb := num_bd (b - a).toNat a
  obtain ⟨FR, hFR⟩ : ∃ F, F = countA a b c := ⟨_, rfl⟩
  rw [← hFR]
  unfold countA at hFR
  by_cases c1 : c = 1
  · subst c1
    rw [if_pos rfl] at hFR
    obtain ⟨k, hk⟩ := roundsOf (specMake_ev (b - a) 360 (by omega) (by omega) (by omega))
    rw [← hFR] at hk
    obtain ⟨n, d, o⟩ := FR
    have HK := am_ hk
    clear hk hFR ht hnb
    go_enter Try.func125, Try.ntmps125
    go_wp2_with (((with_reducible refine gate_dst (N := 6) rfl ?_); refine box_event ?hg (N := 6) ?hd (cs := #[.int .i64 0, .int .i64 0]) (t := 24) ?hr ?_; (case hd => rfl); (case hg => rfl); (case hr => first | (go_simp; done) | (go_simp; rfl))); intro g1 hg w_g1 hbox hb; have n_ := am_ (below_step (by repeat first | (with_reducible first | exact HB.out | apply ba_ | apply bn_ | apply bd_) | exact HB.out) hb); have BKg1 := am_ hbox; have GEg1 := am_ (show w.heap.size ≤ g1 from by rw [hg]; exact below_size (by repeat first | (with_reducible first | exact HB.out | apply ba_ | apply bn_ | apply bd_) | exact HB.out)); clear HB ; have HB := n_; clear n_ hb hbox hg)
    refine (spec_MakeFraction.calls k _ _ n d o _ HK.out).mono ?_
    rintro e w1 ⟨rfl, hb⟩
    replace BKg1 := am_ (blk_below (blk_below BKg1.out (by repeat first | exact Below.refl _ _ | apply ba_ | apply bn_ | apply bd_)) hb); replace HB := am_ (below_step (by repeat first | (with_reducible first | exact HB.out | apply ba_ | apply bn_ | apply bd_) | exact HB.out) hb); clear hb
    have yg1_0 : w1.cell? ⟨g1, 0, none⟩ = some (.int .i64 0) := (blk_cell BKg1.out 0).trans rfl; have fg1_0 := blk_frozen BKg1.out 0; have yg1_1 : w1.cell? ⟨g1, 1, none⟩ = some (.int .i64 0) := (blk_cell BKg1.out 1).trans rfl; have fg1_1 := blk_frozen BKg1.out 1
    go_wp2
    refine bodyPost_ret (results_ct rfl _ _ g1 24 #[.int .i64 n, .int .i64 d] (0, 0) _ rfl (by (with_reducible repeat first | refine kn_ ?_ _ | refine kd_ ?_ | refine ka_ ?_ _); refine blk_put (cs := #[.int .i64 n, .int .i64 0]) ?_ 1 _ rfl; (with_reducible repeat first | refine kn_ ?_ _ | refine kd_ ?_ | refine ka_ ?_ _); refine blk_put (cs := #[.int .i64 0, .int .i64 0]) ?_ 0 _ rfl; (with_reducible repeat first | refine kn_ ?_ _ | refine kd_ ?_ | refine ka_ ?_ _); exact BKg1.out) Try.underlying24 rfl (by kernel_rfl)) rfl ?_
    exact ⟨rfl, (by repeat first | (with_reducible first | exact HB.out | apply ba_ | apply bn_ | apply bd_ | refine below_set ?_ GEg1.out) | exact HB.out)⟩
  rw [if_neg c1] at hFR
  have cb1 : (c == 1) = false := by rw [beq_eq_false_iff_ne]; exact c1
  by_cases c2 : c = 2
  · subst c2
    rw [if_pos rfl] at hFR
    clear c1 cb1
    obtain ⟨k, hk⟩ := roundsOf (specMake_ev (b - a) 365 (by omega) (by omega) (by omega))
    rw [← hFR] at hk
    obtain ⟨n, d, o⟩ := FR
    have HK := am_ hk
    clear hk hFR ht hnb
    go_enter Try.func125, Try.ntmps125
    go_wp2_with (((with_reducible refine gate_dst (N := 6) rfl ?_); refine box_event ?hg (N := 6) ?hd (cs := #[.int .i64 0, .int .i64 0]) (t := 24) ?hr ?_; (case hd => rfl); (case hg => rfl); (case hr => first | (go_simp; done) | (go_simp; rfl))); intro g1 hg w_g1 hbox hb; have n_ := am_ (below_step (by repeat first | (with_reducible first | exact HB.out | apply ba_ | apply bn_ | apply bd_) | exact HB.out) hb); have BKg1 := am_ hbox; have GEg1 := am_ (show w.heap.size ≤ g1 from by rw [hg]; exact below_size (by repeat first | (with_reducible first | exact HB.out | apply ba_ | apply bn_ | apply bd_) | exact HB.out)); clear HB ; have HB := n_; clear n_ hb hbox hg)
    refine (spec_MakeFraction.calls k _ _ n d o _ HK.out).mono ?_
    rintro e w1 ⟨rfl, hb⟩
    replace BKg1 := am_ (blk_below (blk_below BKg1.out (by repeat first | exact Below.refl _ _ | apply ba_ | apply bn_ | apply bd_)) hb); replace HB := am_ (below_step (by repeat first | (with_reducible first | exact HB.out | apply ba_ | apply bn_ | apply bd_) | exact HB.out) hb); clear hb
    have yg1_0 : w1.cell? ⟨g1, 0, none⟩ = some (.int .i64 0) := (blk_cell BKg1.out 0).trans rfl; have fg1_0 := blk_frozen BKg1.out 0; have yg1_1 : w1.cell? ⟨g1, 1, none⟩ = some (.int .i64 0) := (blk_cell BKg1.out 1).trans rfl; have fg1_1 := blk_frozen BKg1.out 1
    go_wp2
    refine bodyPost_ret (results_ct rfl _ _ g1 24 #[.int .i64 n, .int .i64 d] (0, 0) _ rfl (by (with_reducible repeat first | refine kn_ ?_ _ | refine kd_ ?_ | refine ka_ ?_ _); refine blk_put (cs := #[.int .i64 n, .int .i64 0]) ?_ 1 _ rfl; (with_reducible repeat first | refine kn_ ?_ _ | refine kd_ ?_ | refine ka_ ?_ _); refine blk_put (cs := #[.int .i64 0, .int .i64 0]) ?_ 0 _ rfl; (with_reducible repeat first | refine kn_ ?_ _ | refine kd_ ?_ | refine ka_ ?_ _); exact BKg1.out) Try.underlying24 rfl (by kernel_rfl)) rfl ?_
    exact ⟨rfl, (by repeat first | (with_reducible first | exact HB.out | apply ba_ | apply bn_ | apply bd_ | refine below_set ?_ GEg1.out) | exact HB.out)⟩
  rw [if_neg c2] at hFR
  have cb2 : (c == 2) = false := by rw [beq_eq_false_iff_ne]; exact c2
  by_cases c3 : c = 3
  · subst c3
    rw [if_pos rfl] at hFR
    clear c1 cb1 c2 cb2
    obtain ⟨TH, hTH⟩ : ∃ T, T = thirtyA a b := ⟨_, rfl⟩
    rw [← hTH] at hFR ht
    have HTH := am_ (show TH = thirtyA a b from hTH)
    clear hTH
    obtain ⟨k, hk⟩ := roundsOf (specMake_ev (TH) 360 (by omega) (by omega) (by omega))
    rw [← hFR] at hk
    obtain ⟨n, d, o⟩ := FR
    have HK := am_ hk
    have HA := am_ ha
    have HBB := am_ hb
    clear ha hb hab
    clear hk hFR ht hnb
    go_enter Try.func125, Try.ntmps125
    go_wp2_with (((with_reducible refine gate_dst (N := 6) rfl ?_); refine box_event ?hg (N := 6) ?hd (cs := #[.int .i64 0, .int .i64 0]) (t := 24) ?hr ?_; (case hd => rfl); (case hg => rfl); (case hr => first | (go_simp; done) | (go_simp; rfl))); intro g1 hg w_g1 hbox hb; have n_ := am_ (below_step (by repeat first | (with_reducible first | exact HB.out | apply ba_ | apply bn_ | apply bd_) | exact HB.out) hb); have BKg1 := am_ hbox; have GEg1 := am_ (show w.heap.size ≤ g1 from by rw [hg]; exact below_size (by repeat first | (with_reducible first | exact HB.out | apply ba_ | apply bn_ | apply bd_) | exact HB.out)); clear HB ; have HB := n_; clear n_ hb hbox hg)
    refine (thirtyS_c a b HA.out HBB.out _).mono ?_
    rw [← HTH.out]
    rintro e w2 ⟨rfl, hb⟩
    replace BKg1 := am_ (blk_below (blk_below BKg1.out (by repeat first | exact Below.refl _ _ | apply ba_ | apply bn_ | apply bd_)) hb); replace HB := am_ (below_step (by repeat first | (with_reducible first | exact HB.out | apply ba_ | apply bn_ | apply bd_) | exact HB.out) hb); clear hb
    go_wp2_with fail
    refine (spec_MakeFraction.calls k _ _ n d o _ HK.out).mono ?_
    rintro e w1 ⟨rfl, hb⟩
    replace BKg1 := am_ (blk_below (blk_below BKg1.out (by repeat first | exact Below.refl _ _ | apply ba_ | apply bn_ | apply bd_)) hb); replace HB := am_ (below_step (by repeat first | (with_reducible first | exact HB.out | apply ba_ | apply bn_ | apply bd_) | exact HB.out) hb); clear hb
    have yg1_0 : w1.cell? ⟨g1, 0, none⟩ = some (.int .i64 0) := (blk_cell BKg1.out 0).trans rfl; have fg1_0 := blk_frozen BKg1.out 0; have yg1_1 : w1.cell? ⟨g1, 1, none⟩ = some (.int .i64 0) := (blk_cell BKg1.out 1).trans rfl; have fg1_1 := blk_frozen BKg1.out 1
    go_wp2
    refine bodyPost_ret (results_ct rfl _ _ g1 24 #[.int .i64 n, .int .i64 d] (0, 0) _ rfl (by (with_reducible repeat first | refine kn_ ?_ _ | refine kd_ ?_ | refine ka_ ?_ _); refine blk_put (cs := #[.int .i64 n, .int .i64 0]) ?_ 1 _ rfl; (with_reducible repeat first | refine kn_ ?_ _ | refine kd_ ?_ | refine ka_ ?_ _); refine blk_put (cs := #[.int .i64 0, .int .i64 0]) ?_ 0 _ rfl; (with_reducible repeat first | refine kn_ ?_ _ | refine kd_ ?_ | refine ka_ ?_ _); exact BKg1.out) Try.underlying24 rfl (by kernel_rfl)) rfl ?_
    exact ⟨rfl, (by repeat first | (with_reducible first | exact HB.out | apply ba_ | apply bn_ | apply bd_ | refine below_set ?_ GEg1.out) | exact HB.out)⟩
  rw [if_neg c3] at hFR
  have cb3 : (c == 3) = false := by rw [beq_eq_false_iff_ne]; exact c3
  clear c1 c2 c3
  obtain ⟨NU, hNU⟩ : ∃ T, T = numA a (b - a).toNat := ⟨_, rfl⟩
  rw [← hNU] at hFR hnb
  have HNU := am_ (show NU = numA a (b - a).toNat from hNU)
  have hb20 : NU ≤ 366 * 36524 := by omega
  clear hNU
  obtain ⟨k, hk⟩ := roundsOf (specMake_ev (NU) 133590 (by omega) (by omega) (by omega))
  rw [← hFR] at hk
  obtain ⟨n, d, o⟩ := FR
  have HK := am_ hk
  have HA := am_ (show 0 ≤ a ∧ a ≤ b from ⟨ha.1, hab⟩)
  have HBB := am_ hb.2
  clear ha hb hab hc
  clear hk hFR ht hnb
  go_enter Try.func125, Try.ntmps125
  go_wp2_with (((with_reducible refine gate_dst (N := 6) rfl ?_); refine box_event ?hg (N := 6) ?hd (cs := #[.int .i64 0, .int .i64 0]) (t := 24) ?hr ?_; (case hd => rfl); (case hg => rfl); (case hr => first | (go_simp; done) | (go_simp; rfl))); intro g1 hg w_g1 hbox hb; have n_ := am_ (below_step (by repeat first | (with_reducible first | exact HB.out | apply ba_ | apply bn_ | apply bd_) | exact HB.out) hb); have BKg1 := am_ hbox; have GEg1 := am_ (show w.heap.size ≤ g1 from by rw [hg]; exact below_size (by repeat first | (with_reducible first | exact HB.out | apply ba_ | apply bn_ | apply bd_) | exact HB.out)); clear HB ; have HB := n_; clear n_ hb hbox hg)
  refine (yearsS_c a b HA.out HBB.out _).mono ?_
  rw [← HNU.out]
  rintro e w2 ⟨⟨l, o', rfl, hlo, hl, ho, hlo2⟩, hb⟩
  replace BKg1 := am_ (blk_below (blk_below BKg1.out (by repeat first | exact Below.refl _ _ | apply ba_ | apply bn_ | apply bd_)) hb); replace HB := am_ (below_step (by repeat first | (with_reducible first | exact HB.out | apply ba_ | apply bn_ | apply bd_) | exact HB.out) hb); clear hb
  go_wp2_with fail
  refine calls_of_args (args' := #[.int .i64 NU, .int .i64 133590]) rfl ?_
  refine (spec_MakeFraction.calls k _ _ n d o _ HK.out).mono ?_
  rintro e w1 ⟨rfl, hb⟩
  replace BKg1 := am_ (blk_below (blk_below BKg1.out (by repeat first | exact Below.refl _ _ | apply ba_ | apply bn_ | apply bd_)) hb); replace HB := am_ (below_step (by repeat first | (with_reducible first | exact HB.out | apply ba_ | apply bn_ | apply bd_) | exact HB.out) hb); clear hb
  have yg1_0 : w1.cell? ⟨g1, 0, none⟩ = some (.int .i64 0) := (blk_cell BKg1.out 0).trans rfl; have fg1_0 := blk_frozen BKg1.out 0; have yg1_1 : w1.cell? ⟨g1, 1, none⟩ = some (.int .i64 0) := (blk_cell BKg1.out 1).trans rfl; have fg1_1 := blk_frozen BKg1.out 1
  go_wp2
  refine bodyPost_ret (results_ct rfl _ _ g1 24 #[.int .i64 n, .int .i64 d] (0, 0) _ rfl (by (with_reducible repeat first | refine kn_ ?_ _ | refine kd_ ?_ | refine ka_ ?_ _); refine blk_put (cs := #[.int .i64 n, .int .i64 0]) ?_ 1 _ rfl; (with_reducible repeat first | refine kn_ ?_ _ | refine kd_ ?_ | refine ka_ ?_ _); refine blk_put (cs := #[.int .i64 0, .int .i64 0]) ?_ 0 _ rfl; (with_reducible repeat first | refine kn_ ?_ _ | refine kd_ ?_ | refine ka_ ?_ _); exact BKg1.out) Try.underlying24 rfl (by kernel_rfl)) rfl ?_
  exact ⟨rfl, (by repeat first | (with_reducible first | exact HB.out | apply ba_ | apply bn_ | apply bd_ | refine below_set ?_ GEg1.out) | exact HB.out)⟩
set_option maxHeartbeats 8000000 in
set_option maxRecDepth 100000 in
theorem dayCountS_c (a b c : Int) (w : World) :
    Calls Try.prog 102 #[.int .i64 a, .int .i64 b, .int .i64 c] w fun e w' => e = .returned (.tuple #[.agg #[.int .i64 (dayCountA a b c).1, .int .i64 (dayCountA a b c).2.1], .bool (dayCountA a b c).2.2]) ∧ Below w.heap.size w w' := by
  have HB := am_ (Below.refl w.heap.size w)
  have g0_ := l3Good_eq a
  by_cases c0_ : 0 ≤ a ∧ a ≤ 36524
  · rw [decide_eq_true c0_] at g0_
    have G1 := am_ g0_
    clear g0_
    have g1_ := l3Good_eq b
    by_cases c1_ : 0 ≤ b ∧ b ≤ 36524
    · rw [decide_eq_true c1_] at g1_
      have G2 := am_ g1_
      clear g1_
      by_cases c2_ : ¬ b < a
      · have cb2_ : decide (¬ b < a) = true := decide_eq_true c2_
        have g3_ := l1In_eq c 1 4
        by_cases c3_ : 1 ≤ c ∧ c ≤ 4
        · rw [decide_eq_true c3_] at g3_
          have G3 := am_ g3_
          clear g3_
          have hv : validC a b c := ⟨c0_, c1_, by omega, c3_⟩
          have hfin : dayCountA a b c = countA a b c := by unfold dayCountA; rw [if_pos hv]
          rw [hfin]
          obtain ⟨FR, hFR⟩ : ∃ F, F = countA a b c := ⟨_, rfl⟩
          have HFR := am_ hFR.symm
          rw [← hFR]
          obtain ⟨n, d, o⟩ := FR
          clear hFR
          have HV := am_ hv
          have cab_ : decide (b < a) = false := decide_eq_false c2_
          clear hfin hv c0_ c1_ c3_
          go_enter Try.func102, Try.ntmps102
          go_wp2_with (((with_reducible refine gate_dst (N := 6) rfl ?_); refine box_event ?hg (N := 6) ?hd (cs := #[.int .i64 0,.int .i64 0]) (t := 24) ?hr ?_; (case hd => rfl); (case hg => rfl); (case hr => first | (go_simp; done) | (go_simp; rfl))); intro g1 hg w_g1 hbox hb; have n_ := am_ (below_step (by repeat first | (with_reducible first | exact HB.out | apply ba_ | apply bn_ | apply bd_) | exact HB.out) hb); have BKg1 := am_ hbox; have GEg1 := am_ (show w.heap.size ≤ g1 from by rw [hg]; exact below_size (by repeat first | (with_reducible first | exact HB.out | apply ba_ | apply bn_ | apply bd_) | exact HB.out)); clear HB ; have HB := n_; clear n_ hb hbox hg)
          refine (spec_l3Good.calls a true _ G1.out).mono ?_
          rintro e w1_ ⟨rfl, hb0⟩
          have hb := db_ hb0
          clear hb0
          replace BKg1 := am_ (blk_below (blk_below BKg1.out (by repeat first | exact Below.refl _ _ | apply ba_ | apply bn_ | apply bd_)) hb); replace HB := am_ (below_step (by repeat first | (with_reducible first | exact HB.out | apply ba_ | apply bn_ | apply bd_) | exact HB.out) hb); clear hb
          go_wp2_with fail
          refine (spec_l3Good.calls b true _ G2.out).mono ?_
          rintro e w2_ ⟨rfl, hb0⟩
          have hb := db_ hb0
          clear hb0
          replace BKg1 := am_ (blk_below (blk_below BKg1.out (by repeat first | exact Below.refl _ _ | apply ba_ | apply bn_ | apply bd_)) hb); replace HB := am_ (below_step (by repeat first | (with_reducible first | exact HB.out | apply ba_ | apply bn_ | apply bd_) | exact HB.out) hb); clear hb
          go_wp2_with fail
          refine (spec_l1In.calls c 1 4 true _ G3.out).mono ?_
          rintro e w3_ ⟨rfl, hb0⟩
          have hb := db_ hb0
          clear hb0
          replace BKg1 := am_ (blk_below (blk_below BKg1.out (by repeat first | exact Below.refl _ _ | apply ba_ | apply bn_ | apply bd_)) hb); replace HB := am_ (below_step (by repeat first | (with_reducible first | exact HB.out | apply ba_ | apply bn_ | apply bd_) | exact HB.out) hb); clear hb
          go_wp2_with fail
          refine (countS_c a b c HV.out _).mono ?_
          rw [HFR.out]
          rintro e w9_ ⟨rfl, hb⟩
          replace BKg1 := am_ (blk_below (blk_below BKg1.out (by repeat first | exact Below.refl _ _ | apply ba_ | apply bn_ | apply bd_)) hb); replace HB := am_ (below_step (by repeat first | (with_reducible first | exact HB.out | apply ba_ | apply bn_ | apply bd_) | exact HB.out) hb); clear hb
          have yg1_0 : w9_.cell? ⟨g1, 0, none⟩ = some (.int .i64 0) := (blk_cell BKg1.out 0).trans rfl; have fg1_0 := blk_frozen BKg1.out 0; have yg1_1 : w9_.cell? ⟨g1, 1, none⟩ = some (.int .i64 0) := (blk_cell BKg1.out 1).trans rfl; have fg1_1 := blk_frozen BKg1.out 1
          go_wp2
          refine bodyPost_ret (results_ct rfl _ _ g1 24 #[.int .i64 n, .int .i64 d] (0, 0) _ rfl (by (with_reducible repeat first | refine kn_ ?_ _ | refine kd_ ?_ | refine ka_ ?_ _); refine blk_put (cs := #[.int .i64 n, .int .i64 0]) ?_ 1 _ rfl; (with_reducible repeat first | refine kn_ ?_ _ | refine kd_ ?_ | refine ka_ ?_ _); refine blk_put (cs := #[.int .i64 0, .int .i64 0]) ?_ 0 _ rfl; (with_reducible repeat first | refine kn_ ?_ _ | refine kd_ ?_ | refine ka_ ?_ _); exact BKg1.out) Try.underlying24 rfl (by kernel_rfl)) rfl ?_
          exact ⟨rfl, (by repeat first | (with_reducible first | exact HB.out | apply ba_ | apply bn_ | apply bd_ | refine below_set ?_ GEg1.out) | exact HB.out)⟩
        · rw [decide_eq_false c3_] at g3_
          have G3 := am_ g3_
          clear g3_
          have hfin : dayCountA a b c = (0, 0, false) := by unfold dayCountA; rw [if_neg (fun v => c3_ v.2.2.2)]
          rw [hfin]
          clear hfin
          have cab_ : decide (b < a) = false := decide_eq_false c2_
          go_enter Try.func102, Try.ntmps102
          go_wp2_with (((with_reducible refine gate_dst (N := 6) rfl ?_); refine box_event ?hg (N := 6) ?hd (cs := #[.int .i64 0,.int .i64 0]) (t := 24) ?hr ?_; (case hd => rfl); (case hg => rfl); (case hr => first | (go_simp; done) | (go_simp; rfl))); intro g1 hg w_g1 hbox hb; have n_ := am_ (below_step (by repeat first | (with_reducible first | exact HB.out | apply ba_ | apply bn_ | apply bd_) | exact HB.out) hb); have BKg1 := am_ hbox; have GEg1 := am_ (show w.heap.size ≤ g1 from by rw [hg]; exact below_size (by repeat first | (with_reducible first | exact HB.out | apply ba_ | apply bn_ | apply bd_) | exact HB.out)); clear HB ; have HB := n_; clear n_ hb hbox hg)
          refine (spec_l3Good.calls a true _ G1.out).mono ?_
          rintro e w1_ ⟨rfl, hb0⟩
          have hb := db_ hb0
          clear hb0
          replace BKg1 := am_ (blk_below (blk_below BKg1.out (by repeat first | exact Below.refl _ _ | apply ba_ | apply bn_ | apply bd_)) hb); replace HB := am_ (below_step (by repeat first | (with_reducible first | exact HB.out | apply ba_ | apply bn_ | apply bd_) | exact HB.out) hb); clear hb
          go_wp2_with fail
          refine (spec_l3Good.calls b true _ G2.out).mono ?_
          rintro e w2_ ⟨rfl, hb0⟩
          have hb := db_ hb0
          clear hb0
          replace BKg1 := am_ (blk_below (blk_below BKg1.out (by repeat first | exact Below.refl _ _ | apply ba_ | apply bn_ | apply bd_)) hb); replace HB := am_ (below_step (by repeat first | (with_reducible first | exact HB.out | apply ba_ | apply bn_ | apply bd_) | exact HB.out) hb); clear hb
          go_wp2_with fail
          refine (spec_l1In.calls c 1 4 false _ G3.out).mono ?_
          rintro e w3_ ⟨rfl, hb0⟩
          have hb := db_ hb0
          clear hb0
          replace BKg1 := am_ (blk_below (blk_below BKg1.out (by repeat first | exact Below.refl _ _ | apply ba_ | apply bn_ | apply bd_)) hb); replace HB := am_ (below_step (by repeat first | (with_reducible first | exact HB.out | apply ba_ | apply bn_ | apply bd_) | exact HB.out) hb); clear hb
          have yg1_0 : w3_.cell? ⟨g1, 0, none⟩ = some (.int .i64 0) := (blk_cell BKg1.out 0).trans rfl; have fg1_0 := blk_frozen BKg1.out 0; have yg1_1 : w3_.cell? ⟨g1, 1, none⟩ = some (.int .i64 0) := (blk_cell BKg1.out 1).trans rfl; have fg1_1 := blk_frozen BKg1.out 1
          go_wp2
          refine bodyPost_ret (results_ct rfl _ _ g1 24 #[.int .i64 0, .int .i64 0] (0, 0) _ rfl (by (with_reducible repeat first | refine kn_ ?_ _ | refine kd_ ?_ | refine ka_ ?_ _); refine blk_put (cs := #[.int .i64 0, .int .i64 0]) ?_ 1 _ rfl; (with_reducible repeat first | refine kn_ ?_ _ | refine kd_ ?_ | refine ka_ ?_ _); refine blk_put (cs := #[.int .i64 0, .int .i64 0]) ?_ 0 _ rfl; (with_reducible repeat first | refine kn_ ?_ _ | refine kd_ ?_ | refine ka_ ?_ _); exact BKg1.out) Try.underlying24 rfl (by kernel_rfl)) rfl ?_
          exact ⟨rfl, (by repeat first | (with_reducible first | exact HB.out | apply ba_ | apply bn_ | apply bd_ | refine below_set ?_ GEg1.out) | exact HB.out)⟩
      · have cb2_ : decide (¬ b < a) = false := decide_eq_false c2_
        have hfin : dayCountA a b c = (0, 0, false) := by unfold dayCountA; rw [if_neg (fun v => c2_ (by have := v.2.2.1; omega))]
        rw [hfin]
        clear hfin
        have cab_ : decide (b < a) = true := decide_eq_true (by omega)
        go_enter Try.func102, Try.ntmps102
        go_wp2_with (((with_reducible refine gate_dst (N := 6) rfl ?_); refine box_event ?hg (N := 6) ?hd (cs := #[.int .i64 0,.int .i64 0]) (t := 24) ?hr ?_; (case hd => rfl); (case hg => rfl); (case hr => first | (go_simp; done) | (go_simp; rfl))); intro g1 hg w_g1 hbox hb; have n_ := am_ (below_step (by repeat first | (with_reducible first | exact HB.out | apply ba_ | apply bn_ | apply bd_) | exact HB.out) hb); have BKg1 := am_ hbox; have GEg1 := am_ (show w.heap.size ≤ g1 from by rw [hg]; exact below_size (by repeat first | (with_reducible first | exact HB.out | apply ba_ | apply bn_ | apply bd_) | exact HB.out)); clear HB ; have HB := n_; clear n_ hb hbox hg)
        refine (spec_l3Good.calls a true _ G1.out).mono ?_
        rintro e w1_ ⟨rfl, hb0⟩
        have hb := db_ hb0
        clear hb0
        replace BKg1 := am_ (blk_below (blk_below BKg1.out (by repeat first | exact Below.refl _ _ | apply ba_ | apply bn_ | apply bd_)) hb); replace HB := am_ (below_step (by repeat first | (with_reducible first | exact HB.out | apply ba_ | apply bn_ | apply bd_) | exact HB.out) hb); clear hb
        go_wp2_with fail
        refine (spec_l3Good.calls b true _ G2.out).mono ?_
        rintro e w2_ ⟨rfl, hb0⟩
        have hb := db_ hb0
        clear hb0
        replace BKg1 := am_ (blk_below (blk_below BKg1.out (by repeat first | exact Below.refl _ _ | apply ba_ | apply bn_ | apply bd_)) hb); replace HB := am_ (below_step (by repeat first | (with_reducible first | exact HB.out | apply ba_ | apply bn_ | apply bd_) | exact HB.out) hb); clear hb
        have yg1_0 : w2_.cell? ⟨g1, 0, none⟩ = some (.int .i64 0) := (blk_cell BKg1.out 0).trans rfl; have fg1_0 := blk_frozen BKg1.out 0; have yg1_1 : w2_.cell? ⟨g1, 1, none⟩ = some (.int .i64 0) := (blk_cell BKg1.out 1).trans rfl; have fg1_1 := blk_frozen BKg1.out 1
        go_wp2
        refine bodyPost_ret (results_ct rfl _ _ g1 24 #[.int .i64 0, .int .i64 0] (0, 0) _ rfl (by (with_reducible repeat first | refine kn_ ?_ _ | refine kd_ ?_ | refine ka_ ?_ _); refine blk_put (cs := #[.int .i64 0, .int .i64 0]) ?_ 1 _ rfl; (with_reducible repeat first | refine kn_ ?_ _ | refine kd_ ?_ | refine ka_ ?_ _); refine blk_put (cs := #[.int .i64 0, .int .i64 0]) ?_ 0 _ rfl; (with_reducible repeat first | refine kn_ ?_ _ | refine kd_ ?_ | refine ka_ ?_ _); exact BKg1.out) Try.underlying24 rfl (by kernel_rfl)) rfl ?_
        exact ⟨rfl, (by repeat first | (with_reducible first | exact HB.out | apply ba_ | apply bn_ | apply bd_ | refine below_set ?_ GEg1.out) | exact HB.out)⟩
    · rw [decide_eq_false c1_] at g1_
      have G2 := am_ g1_
      clear g1_
      have hfin : dayCountA a b c = (0, 0, false) := by unfold dayCountA; rw [if_neg (fun v => c1_ v.2.1)]
      rw [hfin]
      clear hfin
      go_enter Try.func102, Try.ntmps102
      go_wp2_with (((with_reducible refine gate_dst (N := 6) rfl ?_); refine box_event ?hg (N := 6) ?hd (cs := #[.int .i64 0,.int .i64 0]) (t := 24) ?hr ?_; (case hd => rfl); (case hg => rfl); (case hr => first | (go_simp; done) | (go_simp; rfl))); intro g1 hg w_g1 hbox hb; have n_ := am_ (below_step (by repeat first | (with_reducible first | exact HB.out | apply ba_ | apply bn_ | apply bd_) | exact HB.out) hb); have BKg1 := am_ hbox; have GEg1 := am_ (show w.heap.size ≤ g1 from by rw [hg]; exact below_size (by repeat first | (with_reducible first | exact HB.out | apply ba_ | apply bn_ | apply bd_) | exact HB.out)); clear HB ; have HB := n_; clear n_ hb hbox hg)
      refine (spec_l3Good.calls a true _ G1.out).mono ?_
      rintro e w1_ ⟨rfl, hb0⟩
      have hb := db_ hb0
      clear hb0
      replace BKg1 := am_ (blk_below (blk_below BKg1.out (by repeat first | exact Below.refl _ _ | apply ba_ | apply bn_ | apply bd_)) hb); replace HB := am_ (below_step (by repeat first | (with_reducible first | exact HB.out | apply ba_ | apply bn_ | apply bd_) | exact HB.out) hb); clear hb
      go_wp2_with fail
      refine (spec_l3Good.calls b false _ G2.out).mono ?_
      rintro e w2_ ⟨rfl, hb0⟩
      have hb := db_ hb0
      clear hb0
      replace BKg1 := am_ (blk_below (blk_below BKg1.out (by repeat first | exact Below.refl _ _ | apply ba_ | apply bn_ | apply bd_)) hb); replace HB := am_ (below_step (by repeat first | (with_reducible first | exact HB.out | apply ba_ | apply bn_ | apply bd_) | exact HB.out) hb); clear hb
      have yg1_0 : w2_.cell? ⟨g1, 0, none⟩ = some (.int .i64 0) := (blk_cell BKg1.out 0).trans rfl; have fg1_0 := blk_frozen BKg1.out 0; have yg1_1 : w2_.cell? ⟨g1, 1, none⟩ = some (.int .i64 0) := (blk_cell BKg1.out 1).trans rfl; have fg1_1 := blk_frozen BKg1.out 1
      go_wp2
      refine bodyPost_ret (results_ct rfl _ _ g1 24 #[.int .i64 0, .int .i64 0] (0, 0) _ rfl (by (with_reducible repeat first | refine kn_ ?_ _ | refine kd_ ?_ | refine ka_ ?_ _); refine blk_put (cs := #[.int .i64 0, .int .i64 0]) ?_ 1 _ rfl; (with_reducible repeat first | refine kn_ ?_ _ | refine kd_ ?_ | refine ka_ ?_ _); refine blk_put (cs := #[.int .i64 0, .int .i64 0]) ?_ 0 _ rfl; (with_reducible repeat first | refine kn_ ?_ _ | refine kd_ ?_ | refine ka_ ?_ _); exact BKg1.out) Try.underlying24 rfl (by kernel_rfl)) rfl ?_
      exact ⟨rfl, (by repeat first | (with_reducible first | exact HB.out | apply ba_ | apply bn_ | apply bd_ | refine below_set ?_ GEg1.out) | exact HB.out)⟩
  · rw [decide_eq_false c0_] at g0_
    have G1 := am_ g0_
    clear g0_
    have hfin : dayCountA a b c = (0, 0, false) := by unfold dayCountA; rw [if_neg (fun v => c0_ v.1)]
    rw [hfin]
    clear hfin
    go_enter Try.func102, Try.ntmps102
    go_wp2_with (((with_reducible refine gate_dst (N := 6) rfl ?_); refine box_event ?hg (N := 6) ?hd (cs := #[.int .i64 0,.int .i64 0]) (t := 24) ?hr ?_; (case hd => rfl); (case hg => rfl); (case hr => first | (go_simp; done) | (go_simp; rfl))); intro g1 hg w_g1 hbox hb; have n_ := am_ (below_step (by repeat first | (with_reducible first | exact HB.out | apply ba_ | apply bn_ | apply bd_) | exact HB.out) hb); have BKg1 := am_ hbox; have GEg1 := am_ (show w.heap.size ≤ g1 from by rw [hg]; exact below_size (by repeat first | (with_reducible first | exact HB.out | apply ba_ | apply bn_ | apply bd_) | exact HB.out)); clear HB ; have HB := n_; clear n_ hb hbox hg)
    refine (spec_l3Good.calls a false _ G1.out).mono ?_
    rintro e w1_ ⟨rfl, hb0⟩
    have hb := db_ hb0
    clear hb0
    replace BKg1 := am_ (blk_below (blk_below BKg1.out (by repeat first | exact Below.refl _ _ | apply ba_ | apply bn_ | apply bd_)) hb); replace HB := am_ (below_step (by repeat first | (with_reducible first | exact HB.out | apply ba_ | apply bn_ | apply bd_) | exact HB.out) hb); clear hb
    have yg1_0 : w1_.cell? ⟨g1, 0, none⟩ = some (.int .i64 0) := (blk_cell BKg1.out 0).trans rfl; have fg1_0 := blk_frozen BKg1.out 0; have yg1_1 : w1_.cell? ⟨g1, 1, none⟩ = some (.int .i64 0) := (blk_cell BKg1.out 1).trans rfl; have fg1_1 := blk_frozen BKg1.out 1
    go_wp2
    refine bodyPost_ret (results_ct rfl _ _ g1 24 #[.int .i64 0, .int .i64 0] (0, 0) _ rfl (by (with_reducible repeat first | refine kn_ ?_ _ | refine kd_ ?_ | refine ka_ ?_ _); refine blk_put (cs := #[.int .i64 0, .int .i64 0]) ?_ 1 _ rfl; (with_reducible repeat first | refine kn_ ?_ _ | refine kd_ ?_ | refine ka_ ?_ _); refine blk_put (cs := #[.int .i64 0, .int .i64 0]) ?_ 0 _ rfl; (with_reducible repeat first | refine kn_ ?_ _ | refine kd_ ?_ | refine ka_ ?_ _); exact BKg1.out) Try.underlying24 rfl (by kernel_rfl)) rfl ?_
    exact ⟨rfl, (by repeat first | (with_reducible first | exact HB.out | apply ba_ | apply bn_ | apply bd_ | refine below_set ?_ GEg1.out) | exact HB.out)⟩
set_option maxHeartbeats 8000000 in
set_option maxRecDepth 100000 in
theorem growthS_c (n d x y c : Int) (w : World) :
    Calls Try.prog 52 #[.agg #[.int .i64 n, .int .i64 d], .int .i64 x, .int .i64 y, .int .i64 c] w fun e w' => e = .returned (.tuple #[.agg #[.int .i64 (growthA n d x y c).1, .int .i64 (growthA n d x y c).2.1], .bool (growthA n d x y c).2.2]) ∧ Below w.heap.size w w' := by
  have HB := am_ (Below.refl w.heap.size w)
  obtain ⟨DC, hDC⟩ : ∃ F, F = dayCountA x y c := ⟨_, rfl⟩
  have HDC := am_ hDC.symm
  obtain ⟨n1, d1, ok⟩ := DC
  cases ok with
  | false =>
    have hfin : growthA n d x y c = (0, 0, false) := by unfold growthA; rw [← hDC]; rfl
    rw [hfin]
    clear hfin hDC
    go_enter Try.func52, Try.ntmps52
    go_wp2_with (first
      | (((with_reducible refine gate_dst (N := 4) rfl ?_); refine box_event ?hg (N := 4) ?hd (cs := #[.int .i64 n,.int .i64 d]) (t := 24) ?hr ?_; (case hd => rfl); (case hg => rfl); (case hr => first | (go_simp; done) | (go_simp; rfl))); intro g1 hg w_g1 hbox hb; have n_ := am_ (below_step (by repeat first | (with_reducible first | exact HB.out | apply ba_ | apply bn_ | apply bd_) | exact HB.out) hb); have BKg1 := am_ hbox; have GEg1 := am_ (show w.heap.size ≤ g1 from by rw [hg]; exact below_size (by repeat first | (with_reducible first | exact HB.out | apply ba_ | apply bn_ | apply bd_) | exact HB.out)); clear HB ; have HB := n_; clear n_ hb hbox hg)
      | (((with_reducible refine gate_dst (N := 8) rfl ?_); refine box_event ?hg (N := 8) ?hd (cs := #[.int .i64 0,.int .i64 0]) (t := 24) ?hr ?_; (case hd => rfl); (case hg => rfl); (case hr => first | (go_simp; done) | (go_simp; rfl))); intro g2 hg w_g2 hbox hb; have n_ := am_ (below_step (by repeat first | (with_reducible first | exact HB.out | apply ba_ | apply bn_ | apply bd_ | refine below_set ?_ GEg1.out) | exact HB.out) hb); have m_g1 := am_ (blk_below (blk_below BKg1.out (by repeat first | exact Below.refl _ _ | apply ba_ | apply bn_ | apply bd_)) hb); have NEg1_g2 := am_ (show g1 ≠ g2 from by rw [hg]; exact Nat.ne_of_lt (blk_lt (blk_below BKg1.out (by repeat first | exact Below.refl _ _ | apply ba_ | apply bn_ | apply bd_)))); have NEg2_g1 := am_ (Ne.symm NEg1_g2.out); have BKg2 := am_ hbox; have GEg2 := am_ (show w.heap.size ≤ g2 from by rw [hg]; exact below_size (by repeat first | (with_reducible first | exact HB.out | apply ba_ | apply bn_ | apply bd_ | refine below_set ?_ GEg1.out) | exact HB.out)); clear HB BKg1; have HB := n_; clear n_ hb hbox hg; have BKg1 := m_g1; clear m_g1)
      )
    refine (dayCountS_c x y c _).mono ?_
    rw [HDC.out]
    rintro e w1_ ⟨rfl, hb⟩
    replace BKg1 := am_ (blk_below (blk_below BKg1.out (by repeat first | exact Below.refl _ _ | apply ba_ | apply bn_ | apply bd_)) hb); replace BKg2 := am_ (blk_below (blk_below BKg2.out (by repeat first | exact Below.refl _ _ | apply ba_ | apply bn_ | apply bd_)) hb); replace HB := am_ (below_step (by repeat first | (with_reducible first | exact HB.out | apply ba_ | apply bn_ | apply bd_) | exact HB.out) hb); clear hb
    go_wp2_with ((((with_reducible refine gate_dst (N := 10) rfl ?_); refine box_event ?hg (N := 10) ?hd (cs := #[.int .i64 0, .int .i64 0]) (t := 24) ?hr ?_; (case hd => rfl); (case hg => rfl); (case hr => first | (go_simp; done) | (go_simp; rfl))); intro g3 hg w_g3 hbox hb; have n_ := am_ (below_step (by repeat first | (with_reducible first | exact HB.out | apply ba_ | apply bn_ | apply bd_ | refine below_set ?_ GEg1.out | refine below_set ?_ GEg2.out) | exact HB.out) hb); have m_g1 := am_ (blk_below (blk_below BKg1.out (by repeat first | exact Below.refl _ _ | apply ba_ | apply bn_ | apply bd_)) hb); have NEg1_g3 := am_ (show g1 ≠ g3 from by rw [hg]; exact Nat.ne_of_lt (blk_lt (blk_below BKg1.out (by repeat first | exact Below.refl _ _ | apply ba_ | apply bn_ | apply bd_)))); have NEg3_g1 := am_ (Ne.symm NEg1_g3.out); have m_g2 := am_ (blk_below (blk_below BKg2.out (by repeat first | exact Below.refl _ _ | apply ba_ | apply bn_ | apply bd_)) hb); have NEg2_g3 := am_ (show g2 ≠ g3 from by rw [hg]; exact Nat.ne_of_lt (blk_lt (blk_below BKg2.out (by repeat first | exact Below.refl _ _ | apply ba_ | apply bn_ | apply bd_)))); have NEg3_g2 := am_ (Ne.symm NEg2_g3.out); have BKg3 := am_ hbox; have GEg3 := am_ (show w.heap.size ≤ g3 from by rw [hg]; exact below_size (by repeat first | (with_reducible first | exact HB.out | apply ba_ | apply bn_ | apply bd_ | refine below_set ?_ GEg1.out | refine below_set ?_ GEg2.out) | exact HB.out)); clear HB BKg1 BKg2; have HB := n_; clear n_ hb hbox hg; have BKg1 := m_g1; clear m_g1; have BKg2 := m_g2; clear m_g2); have yg2_0 : w_g3.cell? ⟨g2, 0, none⟩ = some (.int .i64 0) := (blk_cell BKg2.out 0).trans rfl; have fg2_0 := blk_frozen BKg2.out 0; have yg2_1 : w_g3.cell? ⟨g2, 1, none⟩ = some (.int .i64 0) := (blk_cell BKg2.out 1).trans rfl; have fg2_1 := blk_frozen BKg2.out 1; have yg3_0 : w_g3.cell? ⟨g3, 0, none⟩ = some (.int .i64 0) := (blk_cell BKg3.out 0).trans rfl; have fg3_0 := blk_frozen BKg3.out 0; have yg3_1 : w_g3.cell? ⟨g3, 1, none⟩ = some (.int .i64 0) := (blk_cell BKg3.out 1).trans rfl; have fg3_1 := blk_frozen BKg3.out 1; have hn1_ := NEg2_g3.out; have hn2_ := NEg3_g2.out)
    refine bodyPost_ret (results_ct rfl _ _ g2 24 #[.int .i64 0, .int .i64 0] (0, 0) _ rfl (by (with_reducible repeat first | refine kn_ ?_ _ | refine kd_ ?_ | refine ka_ ?_ _); refine blk_put (cs := #[.int .i64 0, .int .i64 0]) ?_ 1 _ rfl; (with_reducible repeat first | refine kn_ ?_ _ | refine kd_ ?_ | refine ka_ ?_ _); refine blk_put (cs := #[.int .i64 0, .int .i64 0]) ?_ 0 _ rfl; (with_reducible repeat first | refine kn_ ?_ _ | refine kd_ ?_ | refine ka_ ?_ _ | refine kf_ ?_ NEg2_g3.out _); exact BKg2.out) Try.underlying24 rfl (by kernel_rfl)) rfl ?_
    exact ⟨rfl, (by repeat first | (with_reducible first | exact HB.out | apply ba_ | apply bn_ | apply bd_ | refine below_set ?_ GEg1.out | refine below_set ?_ GEg2.out | refine below_set ?_ GEg3.out) | exact HB.out)⟩
  | true =>
    have hfin : growthA n d x y c = multA n d n1 d1 := by unfold growthA; rw [← hDC]; rfl
    rw [hfin]
    obtain ⟨FR, hFR⟩ : ∃ F, F = multA n d n1 d1 := ⟨_, rfl⟩
    have HFR := am_ hFR.symm
    rw [← hFR]
    obtain ⟨n2, d2, o2⟩ := FR
    clear hFR
    clear hfin hDC
    go_enter Try.func52, Try.ntmps52
    go_wp2_with (first
      | (((with_reducible refine gate_dst (N := 4) rfl ?_); refine box_event ?hg (N := 4) ?hd (cs := #[.int .i64 n,.int .i64 d]) (t := 24) ?hr ?_; (case hd => rfl); (case hg => rfl); (case hr => first | (go_simp; done) | (go_simp; rfl))); intro g1 hg w_g1 hbox hb; have n_ := am_ (below_step (by repeat first | (with_reducible first | exact HB.out | apply ba_ | apply bn_ | apply bd_) | exact HB.out) hb); have BKg1 := am_ hbox; have GEg1 := am_ (show w.heap.size ≤ g1 from by rw [hg]; exact below_size (by repeat first | (with_reducible first | exact HB.out | apply ba_ | apply bn_ | apply bd_) | exact HB.out)); clear HB ; have HB := n_; clear n_ hb hbox hg)
      | (((with_reducible refine gate_dst (N := 8) rfl ?_); refine box_event ?hg (N := 8) ?hd (cs := #[.int .i64 0,.int .i64 0]) (t := 24) ?hr ?_; (case hd => rfl); (case hg => rfl); (case hr => first | (go_simp; done) | (go_simp; rfl))); intro g2 hg w_g2 hbox hb; have n_ := am_ (below_step (by repeat first | (with_reducible first | exact HB.out | apply ba_ | apply bn_ | apply bd_ | refine below_set ?_ GEg1.out) | exact HB.out) hb); have m_g1 := am_ (blk_below (blk_below BKg1.out (by repeat first | exact Below.refl _ _ | apply ba_ | apply bn_ | apply bd_)) hb); have NEg1_g2 := am_ (show g1 ≠ g2 from by rw [hg]; exact Nat.ne_of_lt (blk_lt (blk_below BKg1.out (by repeat first | exact Below.refl _ _ | apply ba_ | apply bn_ | apply bd_)))); have NEg2_g1 := am_ (Ne.symm NEg1_g2.out); have BKg2 := am_ hbox; have GEg2 := am_ (show w.heap.size ≤ g2 from by rw [hg]; exact below_size (by repeat first | (with_reducible first | exact HB.out | apply ba_ | apply bn_ | apply bd_ | refine below_set ?_ GEg1.out) | exact HB.out)); clear HB BKg1; have HB := n_; clear n_ hb hbox hg; have BKg1 := m_g1; clear m_g1)
      )
    refine (dayCountS_c x y c _).mono ?_
    rw [HDC.out]
    rintro e w1_ ⟨rfl, hb⟩
    replace BKg1 := am_ (blk_below (blk_below BKg1.out (by repeat first | exact Below.refl _ _ | apply ba_ | apply bn_ | apply bd_)) hb); replace BKg2 := am_ (blk_below (blk_below BKg2.out (by repeat first | exact Below.refl _ _ | apply ba_ | apply bn_ | apply bd_)) hb); replace HB := am_ (below_step (by repeat first | (with_reducible first | exact HB.out | apply ba_ | apply bn_ | apply bd_) | exact HB.out) hb); clear hb
    go_wp2_with ((((with_reducible refine gate_dst (N := 10) rfl ?_); refine box_event ?hg (N := 10) ?hd (cs := #[.int .i64 0, .int .i64 0]) (t := 24) ?hr ?_; (case hd => rfl); (case hg => rfl); (case hr => first | (go_simp; done) | (go_simp; rfl))); intro g3 hg w_g3 hbox hb; have n_ := am_ (below_step (by repeat first | (with_reducible first | exact HB.out | apply ba_ | apply bn_ | apply bd_ | refine below_set ?_ GEg1.out | refine below_set ?_ GEg2.out) | exact HB.out) hb); have m_g1 := am_ (blk_below (blk_below BKg1.out (by repeat first | exact Below.refl _ _ | apply ba_ | apply bn_ | apply bd_)) hb); have NEg1_g3 := am_ (show g1 ≠ g3 from by rw [hg]; exact Nat.ne_of_lt (blk_lt (blk_below BKg1.out (by repeat first | exact Below.refl _ _ | apply ba_ | apply bn_ | apply bd_)))); have NEg3_g1 := am_ (Ne.symm NEg1_g3.out); have m_g2 := am_ (blk_below (blk_below BKg2.out (by repeat first | exact Below.refl _ _ | apply ba_ | apply bn_ | apply bd_)) hb); have NEg2_g3 := am_ (show g2 ≠ g3 from by rw [hg]; exact Nat.ne_of_lt (blk_lt (blk_below BKg2.out (by repeat first | exact Below.refl _ _ | apply ba_ | apply bn_ | apply bd_)))); have NEg3_g2 := am_ (Ne.symm NEg2_g3.out); have BKg3 := am_ hbox; have GEg3 := am_ (show w.heap.size ≤ g3 from by rw [hg]; exact below_size (by repeat first | (with_reducible first | exact HB.out | apply ba_ | apply bn_ | apply bd_ | refine below_set ?_ GEg1.out | refine below_set ?_ GEg2.out) | exact HB.out)); clear HB BKg1 BKg2; have HB := n_; clear n_ hb hbox hg; have BKg1 := m_g1; clear m_g1; have BKg2 := m_g2; clear m_g2); have yg1_0 : w_g3.cell? ⟨g1, 0, none⟩ = some (.int .i64 n) := (blk_cell BKg1.out 0).trans rfl; have fg1_0 := blk_frozen BKg1.out 0; have yg1_1 : w_g3.cell? ⟨g1, 1, none⟩ = some (.int .i64 d) := (blk_cell BKg1.out 1).trans rfl; have fg1_1 := blk_frozen BKg1.out 1; have yg3_0 : w_g3.cell? ⟨g3, 0, none⟩ = some (.int .i64 0) := (blk_cell BKg3.out 0).trans rfl; have fg3_0 := blk_frozen BKg3.out 0; have yg3_1 : w_g3.cell? ⟨g3, 1, none⟩ = some (.int .i64 0) := (blk_cell BKg3.out 1).trans rfl; have fg3_1 := blk_frozen BKg3.out 1; have hn1_ := NEg1_g3.out; have hn2_ := NEg3_g1.out)
    refine (multS_c n d n1 d1 _).mono ?_
    rw [HFR.out]
    rintro e v1_ ⟨rfl, hb⟩
    have m_g2 := am_ (blk_below (g := g2) (o := .cells #[.int .i64 0, .int .i64 0] 24 (0, 0)) (by repeat (with_reducible first | exact BKg2.out | refine kn_ ?_ _ | refine kd_ ?_ | refine ka_ ?_ _ | refine kf_ ?_ NEg2_g3.out _)) hb)
    have n_ := am_ (below_step (by repeat first | (with_reducible first | exact HB.out | apply ba_ | apply bn_ | apply bd_ | refine below_set ?_ GEg3.out) | exact HB.out) hb)
    clear HB hb BKg2 BKg1 BKg3
    have HB := n_
    clear n_
    have BKg2 := m_g2
    clear m_g2
    have yg2_0 : v1_.cell? ⟨g2, 0, none⟩ = some (.int .i64 0) := (blk_cell BKg2.out 0).trans rfl; have fg2_0 := blk_frozen BKg2.out 0; have yg2_1 : v1_.cell? ⟨g2, 1, none⟩ = some (.int .i64 0) := (blk_cell BKg2.out 1).trans rfl; have fg2_1 := blk_frozen BKg2.out 1
    go_wp2
    refine bodyPost_ret (results_ct rfl _ _ g2 24 #[.int .i64 n2, .int .i64 d2] (0, 0) _ rfl (by (with_reducible repeat first | refine kn_ ?_ _ | refine kd_ ?_ | refine ka_ ?_ _); refine blk_put (cs := #[.int .i64 n2, .int .i64 0]) ?_ 1 _ rfl; (with_reducible repeat first | refine kn_ ?_ _ | refine kd_ ?_ | refine ka_ ?_ _); refine blk_put (cs := #[.int .i64 0, .int .i64 0]) ?_ 0 _ rfl; (with_reducible repeat first | refine kn_ ?_ _ | refine kd_ ?_ | refine ka_ ?_ _); exact BKg2.out) Try.underlying24 rfl (by kernel_rfl)) rfl ?_
    exact ⟨rfl, (by repeat first | (with_reducible first | exact HB.out | apply ba_ | apply bn_ | apply bd_ | refine below_set ?_ GEg1.out | refine below_set ?_ GEg2.out | refine below_set ?_ GEg3.out) | exact HB.out)⟩
set_option maxHeartbeats 8000000 in
set_option maxRecDepth 100000 in
theorem accrueS_c (p n d x y c mode : Int) (w : World) :
    Calls Try.prog 18 #[.int .i64 p, .agg #[.int .i64 n, .int .i64 d], .int .i64 x, .int .i64 y, .int .i64 c, .int .i64 mode] w fun e w' => e = .returned (.tuple #[.int .i64 (accrueA p n d x y c mode).1, .bool (accrueA p n d x y c mode).2]) ∧ Below w.heap.size w w' := by
  have HB := am_ (Below.refl w.heap.size w)
  obtain ⟨kr, hr⟩ := roundsOf (specRate_ev n d)
  have g0_ := l15Principal_eq p
  by_cases c0_ : 0 ≤ p ∧ p ≤ 1000000000
  · rw [decide_eq_true c0_] at g0_
    have G1 := am_ g0_
    clear g0_
    have g1_ := hr
    by_cases c1_ : okF n d ∧ 0 ≤ n
    · rw [decide_eq_true c1_] at g1_
      have G2 := am_ g1_
      clear g1_
      obtain ⟨GR, hGR⟩ : ∃ F, F = growthA n d x y c := ⟨_, rfl⟩
      have HGR := am_ hGR.symm
      obtain ⟨n1, d1, ok⟩ := GR
      cases ok with
      | false =>
        have hfin : accrueA p n d x y c mode = (0, false) := by rw [accrue_spec c0_ c1_, ← hGR]; rfl
        rw [hfin]
        clear hfin hGR
        go_enter Try.func18, Try.ntmps18
        go_wp2_with (((with_reducible refine gate_dst (N := 7) rfl ?_); refine box_event ?hg (N := 7) ?hd (cs := #[.int .i64 n,.int .i64 d]) (t := 24) ?hr ?_; (case hd => rfl); (case hg => rfl); (case hr => first | (go_simp; done) | (go_simp; rfl))); intro g1 hg w_g1 hbox hb; have n_ := am_ (below_step (by repeat first | (with_reducible first | exact HB.out | apply ba_ | apply bn_ | apply bd_) | exact HB.out) hb); have BKg1 := am_ hbox; have GEg1 := am_ (show w.heap.size ≤ g1 from by rw [hg]; exact below_size (by repeat first | (with_reducible first | exact HB.out | apply ba_ | apply bn_ | apply bd_) | exact HB.out)); clear HB ; have HB := n_; clear n_ hb hbox hg)
        refine (spec_l15Principal.calls p true _ G1.out).mono ?_
        rintro e w1_ ⟨rfl, hb0⟩
        have hb := db_ hb0
        clear hb0
        replace BKg1 := am_ (blk_below (blk_below BKg1.out (by repeat first | exact Below.refl _ _ | apply ba_ | apply bn_ | apply bd_)) hb); replace HB := am_ (below_step (by repeat first | (with_reducible first | exact HB.out | apply ba_ | apply bn_ | apply bd_) | exact HB.out) hb); clear hb
        have yg1_0 : w1_.cell? ⟨g1, 0, none⟩ = some (.int .i64 n) := (blk_cell BKg1.out 0).trans rfl; have fg1_0 := blk_frozen BKg1.out 0; have yg1_1 : w1_.cell? ⟨g1, 1, none⟩ = some (.int .i64 d) := (blk_cell BKg1.out 1).trans rfl; have fg1_1 := blk_frozen BKg1.out 1
        go_wp2_with fail
        clear yg1_0 fg1_0 yg1_1 fg1_1
        refine (spec_l15Rate.calls kr n d true _ G2.out).mono ?_
        rintro e w2_ ⟨rfl, hb⟩
        replace BKg1 := am_ (blk_below (blk_below BKg1.out (by repeat first | exact Below.refl _ _ | apply ba_ | apply bn_ | apply bd_)) hb); replace HB := am_ (below_step (by repeat first | (with_reducible first | exact HB.out | apply ba_ | apply bn_ | apply bd_) | exact HB.out) hb); clear hb
        have yg1_0 : w2_.cell? ⟨g1, 0, none⟩ = some (.int .i64 n) := (blk_cell BKg1.out 0).trans rfl; have fg1_0 := blk_frozen BKg1.out 0; have yg1_1 : w2_.cell? ⟨g1, 1, none⟩ = some (.int .i64 d) := (blk_cell BKg1.out 1).trans rfl; have fg1_1 := blk_frozen BKg1.out 1
        go_wp2_with fail
        clear yg1_0 fg1_0 yg1_1 fg1_1
        refine (growthS_c n d x y c _).mono ?_
        rw [HGR.out]
        rintro e w9_ ⟨rfl, hb⟩
        replace BKg1 := am_ (blk_below (blk_below BKg1.out (by repeat first | exact Below.refl _ _ | apply ba_ | apply bn_ | apply bd_)) hb); replace HB := am_ (below_step (by repeat first | (with_reducible first | exact HB.out | apply ba_ | apply bn_ | apply bd_) | exact HB.out) hb); clear hb
        go_wp2_with ((((with_reducible refine gate_dst (N := 14) rfl ?_); refine box_event ?hg (N := 14) ?hd (cs := #[.int .i64 0, .int .i64 0]) (t := 24) ?hr ?_; (case hd => rfl); (case hg => rfl); (case hr => first | (go_simp; done) | (go_simp; rfl))); intro g3 hg w_g3 hbox hb; have n_ := am_ (below_step (by repeat first | (with_reducible first | exact HB.out | apply ba_ | apply bn_ | apply bd_ | refine below_set ?_ GEg1.out) | exact HB.out) hb); have m_g1 := am_ (blk_below (blk_below BKg1.out (by repeat first | exact Below.refl _ _ | apply ba_ | apply bn_ | apply bd_)) hb); have NEg1_g3 := am_ (show g1 ≠ g3 from by rw [hg]; exact Nat.ne_of_lt (blk_lt (blk_below BKg1.out (by repeat first | exact Below.refl _ _ | apply ba_ | apply bn_ | apply bd_)))); have NEg3_g1 := am_ (Ne.symm NEg1_g3.out); have BKg3 := am_ hbox; have GEg3 := am_ (show w.heap.size ≤ g3 from by rw [hg]; exact below_size (by repeat first | (with_reducible first | exact HB.out | apply ba_ | apply bn_ | apply bd_ | refine below_set ?_ GEg1.out) | exact HB.out)); clear HB BKg1; have HB := n_; clear n_ hb hbox hg; have BKg1 := m_g1; clear m_g1); have yg3_0 : w_g3.cell? ⟨g3, 0, none⟩ = some (.int .i64 0) := (blk_cell BKg3.out 0).trans rfl; have fg3_0 := blk_frozen BKg3.out 0; have yg3_1 : w_g3.cell? ⟨g3, 1, none⟩ = some (.int .i64 0) := (blk_cell BKg3.out 1).trans rfl; have fg3_1 := blk_frozen BKg3.out 1)
        go_ret2
        exact ⟨rfl, (by repeat first | (with_reducible first | exact HB.out | apply ba_ | apply bn_ | apply bd_ | refine below_set ?_ GEg1.out | refine below_set ?_ GEg3.out) | exact HB.out)⟩
      | true =>
        have hfin : accrueA p n d x y c mode = scaleA p n1 d1 mode := by rw [accrue_spec c0_ c1_, ← hGR]; rfl
        rw [hfin]
        obtain ⟨SC, hSC⟩ : ∃ F, F = scaleA p n1 d1 mode := ⟨_, rfl⟩
        obtain ⟨k, hk⟩ := roundsOf (specScale_ev p n1 d1 mode)
        rw [← hSC] at hk ⊢
        obtain ⟨sv, so⟩ := SC
        have HK := am_ hk
        clear hk hSC
        clear hfin hGR
        go_enter Try.func18, Try.ntmps18
        go_wp2_with (((with_reducible refine gate_dst (N := 7) rfl ?_); refine box_event ?hg (N := 7) ?hd (cs := #[.int .i64 n,.int .i64 d]) (t := 24) ?hr ?_; (case hd => rfl); (case hg => rfl); (case hr => first | (go_simp; done) | (go_simp; rfl))); intro g1 hg w_g1 hbox hb; have n_ := am_ (below_step (by repeat first | (with_reducible first | exact HB.out | apply ba_ | apply bn_ | apply bd_) | exact HB.out) hb); have BKg1 := am_ hbox; have GEg1 := am_ (show w.heap.size ≤ g1 from by rw [hg]; exact below_size (by repeat first | (with_reducible first | exact HB.out | apply ba_ | apply bn_ | apply bd_) | exact HB.out)); clear HB ; have HB := n_; clear n_ hb hbox hg)
        refine (spec_l15Principal.calls p true _ G1.out).mono ?_
        rintro e w1_ ⟨rfl, hb0⟩
        have hb := db_ hb0
        clear hb0
        replace BKg1 := am_ (blk_below (blk_below BKg1.out (by repeat first | exact Below.refl _ _ | apply ba_ | apply bn_ | apply bd_)) hb); replace HB := am_ (below_step (by repeat first | (with_reducible first | exact HB.out | apply ba_ | apply bn_ | apply bd_) | exact HB.out) hb); clear hb
        have yg1_0 : w1_.cell? ⟨g1, 0, none⟩ = some (.int .i64 n) := (blk_cell BKg1.out 0).trans rfl; have fg1_0 := blk_frozen BKg1.out 0; have yg1_1 : w1_.cell? ⟨g1, 1, none⟩ = some (.int .i64 d) := (blk_cell BKg1.out 1).trans rfl; have fg1_1 := blk_frozen BKg1.out 1
        go_wp2_with fail
        clear yg1_0 fg1_0 yg1_1 fg1_1
        refine (spec_l15Rate.calls kr n d true _ G2.out).mono ?_
        rintro e w2_ ⟨rfl, hb⟩
        replace BKg1 := am_ (blk_below (blk_below BKg1.out (by repeat first | exact Below.refl _ _ | apply ba_ | apply bn_ | apply bd_)) hb); replace HB := am_ (below_step (by repeat first | (with_reducible first | exact HB.out | apply ba_ | apply bn_ | apply bd_) | exact HB.out) hb); clear hb
        have yg1_0 : w2_.cell? ⟨g1, 0, none⟩ = some (.int .i64 n) := (blk_cell BKg1.out 0).trans rfl; have fg1_0 := blk_frozen BKg1.out 0; have yg1_1 : w2_.cell? ⟨g1, 1, none⟩ = some (.int .i64 d) := (blk_cell BKg1.out 1).trans rfl; have fg1_1 := blk_frozen BKg1.out 1
        go_wp2_with fail
        clear yg1_0 fg1_0 yg1_1 fg1_1
        refine (growthS_c n d x y c _).mono ?_
        rw [HGR.out]
        rintro e w9_ ⟨rfl, hb⟩
        replace BKg1 := am_ (blk_below (blk_below BKg1.out (by repeat first | exact Below.refl _ _ | apply ba_ | apply bn_ | apply bd_)) hb); replace HB := am_ (below_step (by repeat first | (with_reducible first | exact HB.out | apply ba_ | apply bn_ | apply bd_) | exact HB.out) hb); clear hb
        go_wp2_with ((((with_reducible refine gate_dst (N := 14) rfl ?_); refine box_event ?hg (N := 14) ?hd (cs := #[.int .i64 0, .int .i64 0]) (t := 24) ?hr ?_; (case hd => rfl); (case hg => rfl); (case hr => first | (go_simp; done) | (go_simp; rfl))); intro g3 hg w_g3 hbox hb; have n_ := am_ (below_step (by repeat first | (with_reducible first | exact HB.out | apply ba_ | apply bn_ | apply bd_ | refine below_set ?_ GEg1.out) | exact HB.out) hb); have m_g1 := am_ (blk_below (blk_below BKg1.out (by repeat first | exact Below.refl _ _ | apply ba_ | apply bn_ | apply bd_)) hb); have NEg1_g3 := am_ (show g1 ≠ g3 from by rw [hg]; exact Nat.ne_of_lt (blk_lt (blk_below BKg1.out (by repeat first | exact Below.refl _ _ | apply ba_ | apply bn_ | apply bd_)))); have NEg3_g1 := am_ (Ne.symm NEg1_g3.out); have BKg3 := am_ hbox; have GEg3 := am_ (show w.heap.size ≤ g3 from by rw [hg]; exact below_size (by repeat first | (with_reducible first | exact HB.out | apply ba_ | apply bn_ | apply bd_ | refine below_set ?_ GEg1.out) | exact HB.out)); clear HB BKg1; have HB := n_; clear n_ hb hbox hg; have BKg1 := m_g1; clear m_g1); have yg3_0 : w_g3.cell? ⟨g3, 0, none⟩ = some (.int .i64 0) := (blk_cell BKg3.out 0).trans rfl; have fg3_0 := blk_frozen BKg3.out 0; have yg3_1 : w_g3.cell? ⟨g3, 1, none⟩ = some (.int .i64 0) := (blk_cell BKg3.out 1).trans rfl; have fg3_1 := blk_frozen BKg3.out 1)
        refine (spec_ScaleAmount.calls k p n1 d1 mode sv so _ HK.out).mono ?_
        rintro e v3_ ⟨rfl, hb⟩
        have n_ := am_ (below_step (by repeat first | (with_reducible first | exact HB.out | apply ba_ | apply bn_ | apply bd_ | refine below_set ?_ GEg3.out) | exact HB.out) hb)
        clear HB hb BKg1 BKg3
        have HB := n_
        clear n_
        go_wp2
        go_ret2
        exact ⟨rfl, (by repeat first | (with_reducible first | exact HB.out | apply ba_ | apply bn_ | apply bd_ | refine below_set ?_ GEg1.out | refine below_set ?_ GEg3.out) | exact HB.out)⟩
    · rw [decide_eq_false c1_] at g1_
      have G2 := am_ g1_
      clear g1_
      have hfin : accrueA p n d x y c mode = (0, false) := by unfold accrueA; rw [if_neg (fun v => c1_ v.2.1)]
      rw [hfin]
      clear hfin
      go_enter Try.func18, Try.ntmps18
      go_wp2_with (((with_reducible refine gate_dst (N := 7) rfl ?_); refine box_event ?hg (N := 7) ?hd (cs := #[.int .i64 n,.int .i64 d]) (t := 24) ?hr ?_; (case hd => rfl); (case hg => rfl); (case hr => first | (go_simp; done) | (go_simp; rfl))); intro g1 hg w_g1 hbox hb; have n_ := am_ (below_step (by repeat first | (with_reducible first | exact HB.out | apply ba_ | apply bn_ | apply bd_) | exact HB.out) hb); have BKg1 := am_ hbox; have GEg1 := am_ (show w.heap.size ≤ g1 from by rw [hg]; exact below_size (by repeat first | (with_reducible first | exact HB.out | apply ba_ | apply bn_ | apply bd_) | exact HB.out)); clear HB ; have HB := n_; clear n_ hb hbox hg)
      refine (spec_l15Principal.calls p true _ G1.out).mono ?_
      rintro e w1_ ⟨rfl, hb0⟩
      have hb := db_ hb0
      clear hb0
      replace BKg1 := am_ (blk_below (blk_below BKg1.out (by repeat first | exact Below.refl _ _ | apply ba_ | apply bn_ | apply bd_)) hb); replace HB := am_ (below_step (by repeat first | (with_reducible first | exact HB.out | apply ba_ | apply bn_ | apply bd_) | exact HB.out) hb); clear hb
      have yg1_0 : w1_.cell? ⟨g1, 0, none⟩ = some (.int .i64 n) := (blk_cell BKg1.out 0).trans rfl; have fg1_0 := blk_frozen BKg1.out 0; have yg1_1 : w1_.cell? ⟨g1, 1, none⟩ = some (.int .i64 d) := (blk_cell BKg1.out 1).trans rfl; have fg1_1 := blk_frozen BKg1.out 1
      go_wp2_with fail
      clear yg1_0 fg1_0 yg1_1 fg1_1
      refine (spec_l15Rate.calls kr n d false _ G2.out).mono ?_
      rintro e w2_ ⟨rfl, hb⟩
      replace BKg1 := am_ (blk_below (blk_below BKg1.out (by repeat first | exact Below.refl _ _ | apply ba_ | apply bn_ | apply bd_)) hb); replace HB := am_ (below_step (by repeat first | (with_reducible first | exact HB.out | apply ba_ | apply bn_ | apply bd_) | exact HB.out) hb); clear hb
      go_wp2
      go_ret2
      exact ⟨rfl, (by repeat first | (with_reducible first | exact HB.out | apply ba_ | apply bn_ | apply bd_ | refine below_set ?_ GEg1.out) | exact HB.out)⟩
  · rw [decide_eq_false c0_] at g0_
    have G1 := am_ g0_
    clear g0_
    have hfin : accrueA p n d x y c mode = (0, false) := by unfold accrueA; rw [if_neg (fun v => c0_ v.1)]
    rw [hfin]
    clear hfin
    go_enter Try.func18, Try.ntmps18
    go_wp2_with (((with_reducible refine gate_dst (N := 7) rfl ?_); refine box_event ?hg (N := 7) ?hd (cs := #[.int .i64 n,.int .i64 d]) (t := 24) ?hr ?_; (case hd => rfl); (case hg => rfl); (case hr => first | (go_simp; done) | (go_simp; rfl))); intro g1 hg w_g1 hbox hb; have n_ := am_ (below_step (by repeat first | (with_reducible first | exact HB.out | apply ba_ | apply bn_ | apply bd_) | exact HB.out) hb); have BKg1 := am_ hbox; have GEg1 := am_ (show w.heap.size ≤ g1 from by rw [hg]; exact below_size (by repeat first | (with_reducible first | exact HB.out | apply ba_ | apply bn_ | apply bd_) | exact HB.out)); clear HB ; have HB := n_; clear n_ hb hbox hg)
    refine (spec_l15Principal.calls p false _ G1.out).mono ?_
    rintro e w1_ ⟨rfl, hb0⟩
    have hb := db_ hb0
    clear hb0
    replace BKg1 := am_ (blk_below (blk_below BKg1.out (by repeat first | exact Below.refl _ _ | apply ba_ | apply bn_ | apply bd_)) hb); replace HB := am_ (below_step (by repeat first | (with_reducible first | exact HB.out | apply ba_ | apply bn_ | apply bd_) | exact HB.out) hb); clear hb
    go_wp2
    go_ret2
    exact ⟨rfl, (by repeat first | (with_reducible first | exact HB.out | apply ba_ | apply bn_ | apply bd_ | refine below_set ?_ GEg1.out) | exact HB.out)⟩
set_option maxHeartbeats 8000000 in
set_option maxRecDepth 100000 in
theorem compS_c (A0 : Option Addr) (c0 : Nat) (xs : List Int) (p0 n d c mode : Int) (hn : xs.length ≤ 1048576) (w : World) (hr0 : (Kd.int .i64).C w A0 xs.length xs) (hc0 : xs.length ≤ c0) (ha0 : 0 < xs.length → ∃ b, A0 = some ⟨b, 0, none⟩) :
    Calls Try.prog 22 #[.int .i64 p0, .agg #[.int .i64 n, .int .i64 d], .slice A0 xs.length c0, .int .i64 c, .int .i64 mode] w fun e w' => e = .returned (.tuple #[.int .i64 (compA p0 n d xs c mode).1, .bool (compA p0 n d xs c mode).2]) ∧ Below w.heap.size w w' := by
  have HB := am_ (Below.refl w.heap.size w)
  have HR0 := am_ hr0
  have HC0 := am_ hc0
  have HA0 := am_ ha0
  clear hr0 hc0 ha0
  obtain ⟨kr, hr⟩ := roundsOf (specRate_ev n d)
  obtain ⟨kq, hq0⟩ := roundsOf (specRising_ev 0 36524 xs hn)
  have hq : spec_l1Rising.f kq xs 0 36524 = some (decide (chkI 0 36524 none xs = true)) := by rw [hq0]; cases chkI 0 36524 none xs <;> rfl
  clear hq0
  have g0_ := l15Principal_eq p0
  by_cases c0_ : 0 ≤ p0 ∧ p0 ≤ 1000000000
  · rw [decide_eq_true c0_] at g0_
    have G1 := am_ g0_
    clear g0_
    have g1_ := hr
    by_cases c1_ : okF n d ∧ 0 ≤ n
    · rw [decide_eq_true c1_] at g1_
      have G2 := am_ g1_
      clear g1_
      have g2_ := l1In_eq (xs.length : Int) 1 41
      by_cases c2_ : 1 ≤ (xs.length : Int) ∧ (xs.length : Int) ≤ 41
      · rw [decide_eq_true c2_] at g2_
        have G3 := am_ g2_
        clear g2_
        have g3_ := hq
        by_cases c3_ : chkI 0 36524 none xs = true
        · rw [decide_eq_true c3_] at g3_
          have G4 := am_ g3_
          clear g3_
          have g4_ := l1In_eq c 1 4
          by_cases c4_ : 1 ≤ c ∧ c ≤ 4
          · rw [decide_eq_true c4_] at g4_
            have G5 := am_ g4_
            clear g4_
            have g5_ := l1In_eq mode 1 4
            by_cases c5_ : 1 ≤ mode ∧ mode ≤ 4
            · rw [decide_eq_true c5_] at g5_
              have G6 := am_ g5_
              clear g5_
              have hfin : compA p0 n d xs c mode = compF n d c mode p0 (xs.getD 0 0) (xs.drop 1) := by unfold compA; rw [if_pos ⟨c0_, ⟨c1_, c4_, c5_⟩, by omega, c3_⟩]
              rw [hfin]
              obtain ⟨FIN, hFIN⟩ : ∃ F, F = compF n d c mode p0 (xs.getD 0 0) (xs.drop 1) := ⟨_, rfl⟩
              rw [← hFIN]
              have HF := am_ (show compF n d c mode p0 (xs.getD (1 - 1) 0) (xs.drop 1) = FIN from hFIN.symm)
              have HPB := am_ (show -1000000000 ≤ p0 ∧ p0 ≤ 1000000000 from by omega)
              have hl1 : 1 ≤ xs.length := by omega
              have hl41 : xs.length ≤ 41 := by omega
              clear hfin hFIN c0_ c1_ c2_ c3_ hr hq hn c4_ c5_
              go_enter Try.func22, Try.ntmps22
              go_wp2_with (((with_reducible refine gate_dst (N := 6) rfl ?_); refine box_event ?hg (N := 6) ?hd (cs := #[.int .i64 n,.int .i64 d]) (t := 24) ?hr ?_; (case hd => rfl); (case hg => rfl); (case hr => first | (go_simp; done) | (go_simp; rfl))); intro g1 hg w_g1 hbox hb; have n_ := am_ (below_step (by repeat first | (with_reducible first | exact HB.out | apply ba_ | apply bn_ | apply bd_) | exact HB.out) hb); have BKg1 := am_ hbox; have GEg1 := am_ (show w.heap.size ≤ g1 from by rw [hg]; exact below_size (by repeat first | (with_reducible first | exact HB.out | apply ba_ | apply bn_ | apply bd_) | exact HB.out)); clear HB ; have HB := n_; clear n_ hb hbox hg)
              refine (spec_l15Principal.calls p0 true _ G1.out).mono ?_
              rintro e w1_ ⟨rfl, hb0⟩
              have hb := db_ hb0
              clear hb0
              replace BKg1 := am_ (blk_below (blk_below BKg1.out (by repeat first | exact Below.refl _ _ | apply ba_ | apply bn_ | apply bd_)) hb); replace HB := am_ (below_step (by repeat first | (with_reducible first | exact HB.out | apply ba_ | apply bn_ | apply bd_) | exact HB.out) hb); clear hb
              have yg1_0 : w1_.cell? ⟨g1, 0, none⟩ = some (.int .i64 n) := (blk_cell BKg1.out 0).trans rfl; have fg1_0 := blk_frozen BKg1.out 0; have yg1_1 : w1_.cell? ⟨g1, 1, none⟩ = some (.int .i64 d) := (blk_cell BKg1.out 1).trans rfl; have fg1_1 := blk_frozen BKg1.out 1
              go_wp2_with fail
              clear yg1_0 fg1_0 yg1_1 fg1_1
              refine (spec_l15Rate.calls kr n d true _ G2.out).mono ?_
              rintro e w2_ ⟨rfl, hb⟩
              replace BKg1 := am_ (blk_below (blk_below BKg1.out (by repeat first | exact Below.refl _ _ | apply ba_ | apply bn_ | apply bd_)) hb); replace HB := am_ (below_step (by repeat first | (with_reducible first | exact HB.out | apply ba_ | apply bn_ | apply bd_) | exact HB.out) hb); clear hb
              go_wp2_with fail
              refine (spec_l1In.calls (xs.length : Int) 1 41 true _ G3.out).mono ?_
              rintro e w3_ ⟨rfl, hb0⟩
              have hb := db_ hb0
              clear hb0
              replace BKg1 := am_ (blk_below (blk_below BKg1.out (by repeat first | exact Below.refl _ _ | apply ba_ | apply bn_ | apply bd_)) hb); replace HB := am_ (below_step (by repeat first | (with_reducible first | exact HB.out | apply ba_ | apply bn_ | apply bd_) | exact HB.out) hb); clear hb
              go_wp2_with fail
              refine (spec_l1Rising.calls kq _ _ xs 0 36524 true _ (by repeat first | exact (Kd.C_below HR0.out HB.out) | with_reducible refine ca_ ?_ _ | with_reducible refine cn_ ?_ _ | with_reducible refine cd_ ?_) HC0.out G4.out).mono ?_
              rintro e w4_ ⟨rfl, hb0⟩
              have hb := db_ hb0
              clear hb0
              replace BKg1 := am_ (blk_below (blk_below BKg1.out (by repeat first | exact Below.refl _ _ | apply ba_ | apply bn_ | apply bd_)) hb); replace HB := am_ (below_step (by repeat first | (with_reducible first | exact HB.out | apply ba_ | apply bn_ | apply bd_) | exact HB.out) hb); clear hb
              go_wp2_with fail
              refine (spec_l1In.calls c 1 4 true _ G5.out).mono ?_
              rintro e w5_ ⟨rfl, hb0⟩
              have hb := db_ hb0
              clear hb0
              replace BKg1 := am_ (blk_below (blk_below BKg1.out (by repeat first | exact Below.refl _ _ | apply ba_ | apply bn_ | apply bd_)) hb); replace HB := am_ (below_step (by repeat first | (with_reducible first | exact HB.out | apply ba_ | apply bn_ | apply bd_) | exact HB.out) hb); clear hb
              go_wp2_with fail
              refine (spec_l1In.calls mode 1 4 true _ G6.out).mono ?_
              rintro e w6_ ⟨rfl, hb0⟩
              have hb := db_ hb0
              clear hb0
              replace BKg1 := am_ (blk_below (blk_below BKg1.out (by repeat first | exact Below.refl _ _ | apply ba_ | apply bn_ | apply bd_)) hb); replace HB := am_ (below_step (by repeat first | (with_reducible first | exact HB.out | apply ba_ | apply bn_ | apply bd_) | exact HB.out) hb); clear hb
              go_wp2
              go_loopw [0, 12] (fun v0 v12 wr => ∃ (i : Nat) (p : Int), v0 = .int .i64 p ∧ v12 = .int .i64 i ∧ Aside0 (1 ≤ i ∧ i ≤ xs.length) ∧ Aside0 (-1000000000 ≤ p ∧ p ≤ 1000000000) ∧ Aside0 (compF n d c mode p (xs.getD (i - 1) 0) (xs.drop i) = FIN) ∧ Aside0 (wr.heap[g1]? = some (.cells #[.int .i64 n, .int .i64 d] 24 (0, 0))) ∧ Aside0 (Below w.heap.size w wr)) (fun _ v12 _ => xs.length - (intOf v12).toNat)
              case atStart => exact ⟨1, p0, rfl, rfl, ⟨Nat.le_refl _, hl1⟩, HPB, HF, BKg1, HB⟩
              case round =>
                clear HF HPB BKg1 HB
                obtain ⟨i, p, rfl, rfl, HI, HPB, HF, BKg1, HB⟩ := hrel
                by_cases hil : i < xs.length
                · have ci : decide (i < xs.length) = true := decide_eq_true hil
                  have hi1 := HI.out.1
                  obtain ⟨b0, e0⟩ := HA0.out (by omega)
                  subst e0
                  have hcx := cellsOfD HR0.out (i - 1) (by omega)
                  have hcy := cellsOfD HR0.out i hil
                  rw [Nat.zero_add] at hcx hcy
                  obtain ⟨x, hx⟩ : ∃ x, x = xs.getD (i - 1) 0 := ⟨_, rfl⟩
                  obtain ⟨y, hy⟩ : ∃ y, y = xs.getD i 0 := ⟨_, rfl⟩
                  rw [← hx] at hcx
                  rw [← hy] at hcy
                  obtain ⟨AC, hAC⟩ : ∃ F, F = accrueA p n d x y c mode := ⟨_, rfl⟩
                  have hrb := accrue_bd p n d x y c mode
                  rw [← hAC] at hrb
                  obtain ⟨r, so⟩ := AC
                  simp only at hrb
                  have HAC := am_ hAC.symm
                  have hst := compF_at (n := n) (d := d) (c := c) (mode := mode) (p := p) (x := x) hil (show accrueA p n d x (xs.getD i 0) c mode = (r, so) from by rw [← hy]; exact hAC.symm)
                  have hfo := HF.out
                  rw [← hx] at hfo
                  rw [hfo, ← hy] at hst
                  have HST := am_ hst
                  have HCX := am_ hcx
                  have HCY := am_ hcy
                  have HBX := am_ (World.block_lt_of_cell? w _ hcx)
                  have HBY := am_ (World.block_lt_of_cell? w _ hcy)
                  have HY := am_ hy
                  have hpb := HPB.out
                  have tk : ((i : Int) - 1).toNat = i - 1 := by omega
                  have tk2 : (0 : Int) ≤ (i : Int) - 1 := by omega
                  have tk3 : (i : Int) - 1 < (xs.length : Int) := by omega
                  have tk4 : (i : Int) < (xs.length : Int) := by omega
                  have tk5 : (1 : Int) ≤ (i : Int) := by omega
                  have tk6 : IntKind.i64.wrap ((i : Int) - 1) = (i : Int) - 1 := IntWalk.i64_in _ (by omega)
                  clear hst hfo hAC hx hy hcx hcy
                  have hcx := (HB.out.cell HBX.out).trans HCX.out
                  have hcy := (HB.out.cell HBY.out).trans HCY.out
                  have yg1_0 : wr.cell? ⟨g1, 0, none⟩ = some (.int .i64 n) := (blk_cell BKg1.out 0).trans rfl; have fg1_0 := blk_frozen BKg1.out 0; have yg1_1 : wr.cell? ⟨g1, 1, none⟩ = some (.int .i64 d) := (blk_cell BKg1.out 1).trans rfl; have fg1_1 := blk_frozen BKg1.out 1
                  go_upto_region 6 with (fail)
                  go_region_held3 (fun w' => w'.cell? ⟨g1, 0, none⟩ = some (.int .i64 n) ∧ w'.cell? ⟨g1, 1, none⟩ = some (.int .i64 d) ∧ w'.cell? ⟨b0, i - 1, none⟩ = some (.int .i64 x) ∧ w'.cell? ⟨b0, i, none⟩ = some (.int .i64 y)) (go_keep)
                    ((first
                      | (go_at_call 18; refine (accrueS_c p n d x y c mode _).mono ?_; rw [HAC.out]; rintro e w1_ ⟨rfl, hb⟩; replace BKg1 := am_ (blk_below (blk_below BKg1.out (by repeat first | exact Below.refl _ _ | apply ba_ | apply bn_ | apply bd_)) hb); replace HB := am_ (below_step (by repeat first | (with_reducible first | exact HB.out | apply ba_ | apply bn_ | apply bd_) | exact HB.out) hb); clear hb; clear hcx hcy yg1_0 yg1_1 fg1_0 fg1_1; have hcx := (HB.out.cell HBX.out).trans HCX.out; have hcy := (HB.out.cell HBY.out).trans HCY.out; have yg1_0 : w1_.cell? ⟨g1, 0, none⟩ = some (.int .i64 n) := (blk_cell BKg1.out 0).trans rfl; have fg1_0 := blk_frozen BKg1.out 0; have yg1_1 : w1_.cell? ⟨g1, 1, none⟩ = some (.int .i64 d) := (blk_cell BKg1.out 1).trans rfl; have fg1_1 := blk_frozen BKg1.out 1)))
                  clear hcx hcy tk tk2 tk3 tk4 tk5 tk6
                  clear yg1_0 fg1_0 yg1_1 fg1_1
                  cases so with
                  | false =>
                    have HFZ := am_ (show FIN = (0, false) from by rw [HST.out, if_neg (fun g => by simp at g)])
                    go_wp2
                    go_ret2
                    exact ⟨by rw [HFZ.out]; rfl, (by repeat first | (with_reducible first | exact HB.out | apply ba_ | apply bn_ | apply bd_) | exact HB.out)⟩
                  | true =>
                    obtain ⟨q, hq⟩ : ∃ q, q = p + r := ⟨_, rfl⟩
                    have hqa := l2Amount_eq q
                    by_cases cq : -1000000000 ≤ q ∧ q ≤ 1000000000
                    · rw [decide_eq_true cq] at hqa
                      have HQA := am_ hqa
                      have hw1 : p + r = q := hq.symm
                      have HFS := am_ (show compF n d c mode q (xs.getD (i + 1 - 1) 0) (xs.drop (i + 1)) = FIN from by rw [HST.out, if_pos ⟨rfl, by rw [← hq]; exact cq⟩, Nat.add_sub_cancel, ← HY.out, hq])
                      clear hqa hq
                      go_wp2_with fail
                      refine (spec_l2Amount.calls q true _ HQA.out).mono ?_
                      rintro e w2_ ⟨rfl, hb0⟩
                      have hb := db_ hb0
                      clear hb0
                      replace BKg1 := am_ (blk_below (blk_below BKg1.out (by repeat first | exact Below.refl _ _ | apply ba_ | apply bn_ | apply bd_)) hb); replace HB := am_ (below_step (by repeat first | (with_reducible first | exact HB.out | apply ba_ | apply bn_ | apply bd_) | exact HB.out) hb); clear hb
                      go_wp2
                      go_roundw
                      case rel => exact ⟨i + 1, q, rfl, by go_num, ⟨by omega, hil⟩, ⟨cq⟩, HFS, ⟨(by (with_reducible repeat first | refine kn_ ?_ _ | refine kd_ ?_ | refine ka_ ?_ _); exact BKg1.out)⟩, ⟨(by repeat first | (with_reducible first | exact HB.out | apply ba_ | apply bn_ | apply bd_) | exact HB.out)⟩⟩
                      case measure => simp [intOf]; omega
                    · rw [decide_eq_false cq] at hqa
                      have HQA := am_ hqa
                      have hw1 : p + r = q := hq.symm
                      have HFZ := am_ (show FIN = (0, false) from by rw [HST.out, if_neg (fun g => cq (by rw [hq]; exact g.2))])
                      clear hqa hq
                      go_wp2_with fail
                      refine (spec_l2Amount.calls q false _ HQA.out).mono ?_
                      rintro e w2_ ⟨rfl, hb0⟩
                      have hb := db_ hb0
                      clear hb0
                      replace BKg1 := am_ (blk_below (blk_below BKg1.out (by repeat first | exact Below.refl _ _ | apply ba_ | apply bn_ | apply bd_)) hb); replace HB := am_ (below_step (by repeat first | (with_reducible first | exact HB.out | apply ba_ | apply bn_ | apply bd_) | exact HB.out) hb); clear hb
                      go_wp2
                      go_ret2
                      exact ⟨by rw [HFZ.out]; rfl, (by repeat first | (with_reducible first | exact HB.out | apply ba_ | apply bn_ | apply bd_) | exact HB.out)⟩
                · obtain rfl : i = xs.length := by have := HI.out; omega
                  have ci : decide (xs.length < xs.length) = false := decide_eq_false (by omega)
                  have hfe := HF.out
                  rw [compF_end] at hfe
                  have HFE := am_ hfe
                  clear hfe
                  go_wp2
                  go_ret2
                  exact ⟨by rw [← HFE.out]; rfl, HB.out⟩
            · rw [decide_eq_false c5_] at g5_
              have G6 := am_ g5_
              clear g5_
              have hfin : compA p0 n d xs c mode = (0, false) := by unfold compA; rw [if_neg (fun v => c5_ v.2.1.2.2)]
              rw [hfin]
              clear hfin
              go_enter Try.func22, Try.ntmps22
              go_wp2_with (((with_reducible refine gate_dst (N := 6) rfl ?_); refine box_event ?hg (N := 6) ?hd (cs := #[.int .i64 n,.int .i64 d]) (t := 24) ?hr ?_; (case hd => rfl); (case hg => rfl); (case hr => first | (go_simp; done) | (go_simp; rfl))); intro g1 hg w_g1 hbox hb; have n_ := am_ (below_step (by repeat first | (with_reducible first | exact HB.out | apply ba_ | apply bn_ | apply bd_) | exact HB.out) hb); have BKg1 := am_ hbox; have GEg1 := am_ (show w.heap.size ≤ g1 from by rw [hg]; exact below_size (by repeat first | (with_reducible first | exact HB.out | apply ba_ | apply bn_ | apply bd_) | exact HB.out)); clear HB ; have HB := n_; clear n_ hb hbox hg)
              refine (spec_l15Principal.calls p0 true _ G1.out).mono ?_
              rintro e w1_ ⟨rfl, hb0⟩
              have hb := db_ hb0
              clear hb0
              replace BKg1 := am_ (blk_below (blk_below BKg1.out (by repeat first | exact Below.refl _ _ | apply ba_ | apply bn_ | apply bd_)) hb); replace HB := am_ (below_step (by repeat first | (with_reducible first | exact HB.out | apply ba_ | apply bn_ | apply bd_) | exact HB.out) hb); clear hb
              have yg1_0 : w1_.cell? ⟨g1, 0, none⟩ = some (.int .i64 n) := (blk_cell BKg1.out 0).trans rfl; have fg1_0 := blk_frozen BKg1.out 0; have yg1_1 : w1_.cell? ⟨g1, 1, none⟩ = some (.int .i64 d) := (blk_cell BKg1.out 1).trans rfl; have fg1_1 := blk_frozen BKg1.out 1
              go_wp2_with fail
              clear yg1_0 fg1_0 yg1_1 fg1_1
              refine (spec_l15Rate.calls kr n d true _ G2.out).mono ?_
              rintro e w2_ ⟨rfl, hb⟩
              replace BKg1 := am_ (blk_below (blk_below BKg1.out (by repeat first | exact Below.refl _ _ | apply ba_ | apply bn_ | apply bd_)) hb); replace HB := am_ (below_step (by repeat first | (with_reducible first | exact HB.out | apply ba_ | apply bn_ | apply bd_) | exact HB.out) hb); clear hb
              go_wp2_with fail
              refine (spec_l1In.calls (xs.length : Int) 1 41 true _ G3.out).mono ?_
              rintro e w3_ ⟨rfl, hb0⟩
              have hb := db_ hb0
              clear hb0
              replace BKg1 := am_ (blk_below (blk_below BKg1.out (by repeat first | exact Below.refl _ _ | apply ba_ | apply bn_ | apply bd_)) hb); replace HB := am_ (below_step (by repeat first | (with_reducible first | exact HB.out | apply ba_ | apply bn_ | apply bd_) | exact HB.out) hb); clear hb
              go_wp2_with fail
              refine (spec_l1Rising.calls kq _ _ xs 0 36524 true _ (by repeat first | exact (Kd.C_below HR0.out HB.out) | with_reducible refine ca_ ?_ _ | with_reducible refine cn_ ?_ _ | with_reducible refine cd_ ?_) HC0.out G4.out).mono ?_
              rintro e w4_ ⟨rfl, hb0⟩
              have hb := db_ hb0
              clear hb0
              replace BKg1 := am_ (blk_below (blk_below BKg1.out (by repeat first | exact Below.refl _ _ | apply ba_ | apply bn_ | apply bd_)) hb); replace HB := am_ (below_step (by repeat first | (with_reducible first | exact HB.out | apply ba_ | apply bn_ | apply bd_) | exact HB.out) hb); clear hb
              go_wp2_with fail
              refine (spec_l1In.calls c 1 4 true _ G5.out).mono ?_
              rintro e w5_ ⟨rfl, hb0⟩
              have hb := db_ hb0
              clear hb0
              replace BKg1 := am_ (blk_below (blk_below BKg1.out (by repeat first | exact Below.refl _ _ | apply ba_ | apply bn_ | apply bd_)) hb); replace HB := am_ (below_step (by repeat first | (with_reducible first | exact HB.out | apply ba_ | apply bn_ | apply bd_) | exact HB.out) hb); clear hb
              go_wp2_with fail
              refine (spec_l1In.calls mode 1 4 false _ G6.out).mono ?_
              rintro e w6_ ⟨rfl, hb0⟩
              have hb := db_ hb0
              clear hb0
              replace BKg1 := am_ (blk_below (blk_below BKg1.out (by repeat first | exact Below.refl _ _ | apply ba_ | apply bn_ | apply bd_)) hb); replace HB := am_ (below_step (by repeat first | (with_reducible first | exact HB.out | apply ba_ | apply bn_ | apply bd_) | exact HB.out) hb); clear hb
              go_wp2
              go_ret2
              exact ⟨rfl, (by repeat first | (with_reducible first | exact HB.out | apply ba_ | apply bn_ | apply bd_ | refine below_set ?_ GEg1.out) | exact HB.out)⟩
          · rw [decide_eq_false c4_] at g4_
            have G5 := am_ g4_
            clear g4_
            have hfin : compA p0 n d xs c mode = (0, false) := by unfold compA; rw [if_neg (fun v => c4_ v.2.1.2.1)]
            rw [hfin]
            clear hfin
            go_enter Try.func22, Try.ntmps22
            go_wp2_with (((with_reducible refine gate_dst (N := 6) rfl ?_); refine box_event ?hg (N := 6) ?hd (cs := #[.int .i64 n,.int .i64 d]) (t := 24) ?hr ?_; (case hd => rfl); (case hg => rfl); (case hr => first | (go_simp; done) | (go_simp; rfl))); intro g1 hg w_g1 hbox hb; have n_ := am_ (below_step (by repeat first | (with_reducible first | exact HB.out | apply ba_ | apply bn_ | apply bd_) | exact HB.out) hb); have BKg1 := am_ hbox; have GEg1 := am_ (show w.heap.size ≤ g1 from by rw [hg]; exact below_size (by repeat first | (with_reducible first | exact HB.out | apply ba_ | apply bn_ | apply bd_) | exact HB.out)); clear HB ; have HB := n_; clear n_ hb hbox hg)
            refine (spec_l15Principal.calls p0 true _ G1.out).mono ?_
            rintro e w1_ ⟨rfl, hb0⟩
            have hb := db_ hb0
            clear hb0
            replace BKg1 := am_ (blk_below (blk_below BKg1.out (by repeat first | exact Below.refl _ _ | apply ba_ | apply bn_ | apply bd_)) hb); replace HB := am_ (below_step (by repeat first | (with_reducible first | exact HB.out | apply ba_ | apply bn_ | apply bd_) | exact HB.out) hb); clear hb
            have yg1_0 : w1_.cell? ⟨g1, 0, none⟩ = some (.int .i64 n) := (blk_cell BKg1.out 0).trans rfl; have fg1_0 := blk_frozen BKg1.out 0; have yg1_1 : w1_.cell? ⟨g1, 1, none⟩ = some (.int .i64 d) := (blk_cell BKg1.out 1).trans rfl; have fg1_1 := blk_frozen BKg1.out 1
            go_wp2_with fail
            clear yg1_0 fg1_0 yg1_1 fg1_1
            refine (spec_l15Rate.calls kr n d true _ G2.out).mono ?_
            rintro e w2_ ⟨rfl, hb⟩
            replace BKg1 := am_ (blk_below (blk_below BKg1.out (by repeat first | exact Below.refl _ _ | apply ba_ | apply bn_ | apply bd_)) hb); replace HB := am_ (below_step (by repeat first | (with_reducible first | exact HB.out | apply ba_ | apply bn_ | apply bd_) | exact HB.out) hb); clear hb
            go_wp2_with fail
            refine (spec_l1In.calls (xs.length : Int) 1 41 true _ G3.out).mono ?_
            rintro e w3_ ⟨rfl, hb0⟩
            have hb := db_ hb0
            clear hb0
            replace BKg1 := am_ (blk_below (blk_below BKg1.out (by repeat first | exact Below.refl _ _ | apply ba_ | apply bn_ | apply bd_)) hb); replace HB := am_ (below_step (by repeat first | (with_reducible first | exact HB.out | apply ba_ | apply bn_ | apply bd_) | exact HB.out) hb); clear hb
            go_wp2_with fail
            refine (spec_l1Rising.calls kq _ _ xs 0 36524 true _ (by repeat first | exact (Kd.C_below HR0.out HB.out) | with_reducible refine ca_ ?_ _ | with_reducible refine cn_ ?_ _ | with_reducible refine cd_ ?_) HC0.out G4.out).mono ?_
            rintro e w4_ ⟨rfl, hb0⟩
            have hb := db_ hb0
            clear hb0
            replace BKg1 := am_ (blk_below (blk_below BKg1.out (by repeat first | exact Below.refl _ _ | apply ba_ | apply bn_ | apply bd_)) hb); replace HB := am_ (below_step (by repeat first | (with_reducible first | exact HB.out | apply ba_ | apply bn_ | apply bd_) | exact HB.out) hb); clear hb
            go_wp2_with fail
            refine (spec_l1In.calls c 1 4 false _ G5.out).mono ?_
            rintro e w5_ ⟨rfl, hb0⟩
            have hb := db_ hb0
            clear hb0
            replace BKg1 := am_ (blk_below (blk_below BKg1.out (by repeat first | exact Below.refl _ _ | apply ba_ | apply bn_ | apply bd_)) hb); replace HB := am_ (below_step (by repeat first | (with_reducible first | exact HB.out | apply ba_ | apply bn_ | apply bd_) | exact HB.out) hb); clear hb
            go_wp2
            go_ret2
            exact ⟨rfl, (by repeat first | (with_reducible first | exact HB.out | apply ba_ | apply bn_ | apply bd_ | refine below_set ?_ GEg1.out) | exact HB.out)⟩
        · rw [decide_eq_false c3_] at g3_
          have G4 := am_ g3_
          clear g3_
          have hfin : compA p0 n d xs c mode = (0, false) := by unfold compA; rw [if_neg (fun v => c3_ v.2.2.2)]
          rw [hfin]
          clear hfin
          go_enter Try.func22, Try.ntmps22
          go_wp2_with (((with_reducible refine gate_dst (N := 6) rfl ?_); refine box_event ?hg (N := 6) ?hd (cs := #[.int .i64 n,.int .i64 d]) (t := 24) ?hr ?_; (case hd => rfl); (case hg => rfl); (case hr => first | (go_simp; done) | (go_simp; rfl))); intro g1 hg w_g1 hbox hb; have n_ := am_ (below_step (by repeat first | (with_reducible first | exact HB.out | apply ba_ | apply bn_ | apply bd_) | exact HB.out) hb); have BKg1 := am_ hbox; have GEg1 := am_ (show w.heap.size ≤ g1 from by rw [hg]; exact below_size (by repeat first | (with_reducible first | exact HB.out | apply ba_ | apply bn_ | apply bd_) | exact HB.out)); clear HB ; have HB := n_; clear n_ hb hbox hg)
          refine (spec_l15Principal.calls p0 true _ G1.out).mono ?_
          rintro e w1_ ⟨rfl, hb0⟩
          have hb := db_ hb0
          clear hb0
          replace BKg1 := am_ (blk_below (blk_below BKg1.out (by repeat first | exact Below.refl _ _ | apply ba_ | apply bn_ | apply bd_)) hb); replace HB := am_ (below_step (by repeat first | (with_reducible first | exact HB.out | apply ba_ | apply bn_ | apply bd_) | exact HB.out) hb); clear hb
          have yg1_0 : w1_.cell? ⟨g1, 0, none⟩ = some (.int .i64 n) := (blk_cell BKg1.out 0).trans rfl; have fg1_0 := blk_frozen BKg1.out 0; have yg1_1 : w1_.cell? ⟨g1, 1, none⟩ = some (.int .i64 d) := (blk_cell BKg1.out 1).trans rfl; have fg1_1 := blk_frozen BKg1.out 1
          go_wp2_with fail
          clear yg1_0 fg1_0 yg1_1 fg1_1
          refine (spec_l15Rate.calls kr n d true _ G2.out).mono ?_
          rintro e w2_ ⟨rfl, hb⟩
          replace BKg1 := am_ (blk_below (blk_below BKg1.out (by repeat first | exact Below.refl _ _ | apply ba_ | apply bn_ | apply bd_)) hb); replace HB := am_ (below_step (by repeat first | (with_reducible first | exact HB.out | apply ba_ | apply bn_ | apply bd_) | exact HB.out) hb); clear hb
          go_wp2_with fail
          refine (spec_l1In.calls (xs.length : Int) 1 41 true _ G3.out).mono ?_
          rintro e w3_ ⟨rfl, hb0⟩
          have hb := db_ hb0
          clear hb0
          replace BKg1 := am_ (blk_below (blk_below BKg1.out (by repeat first | exact Below.refl _ _ | apply ba_ | apply bn_ | apply bd_)) hb); replace HB := am_ (below_step (by repeat first | (with_reducible first | exact HB.out | apply ba_ | apply bn_ | apply bd_) | exact HB.out) hb); clear hb
          go_wp2_with fail
          refine (spec_l1Rising.calls kq _ _ xs 0 36524 false _ (by repeat first | exact (Kd.C_below HR0.out HB.out) | with_reducible refine ca_ ?_ _ | with_reducible refine cn_ ?_ _ | with_reducible refine cd_ ?_) HC0.out G4.out).mono ?_
          rintro e w4_ ⟨rfl, hb0⟩
          have hb := db_ hb0
          clear hb0
          replace BKg1 := am_ (blk_below (blk_below BKg1.out (by repeat first | exact Below.refl _ _ | apply ba_ | apply bn_ | apply bd_)) hb); replace HB := am_ (below_step (by repeat first | (with_reducible first | exact HB.out | apply ba_ | apply bn_ | apply bd_) | exact HB.out) hb); clear hb
          go_wp2
          go_ret2
          exact ⟨rfl, (by repeat first | (with_reducible first | exact HB.out | apply ba_ | apply bn_ | apply bd_ | refine below_set ?_ GEg1.out) | exact HB.out)⟩
      · rw [decide_eq_false c2_] at g2_
        have G3 := am_ g2_
        clear g2_
        have hfin : compA p0 n d xs c mode = (0, false) := by unfold compA; rw [if_neg (fun v => c2_ (by have := v.2.2.1; omega))]
        rw [hfin]
        clear hfin
        go_enter Try.func22, Try.ntmps22
        go_wp2_with (((with_reducible refine gate_dst (N := 6) rfl ?_); refine box_event ?hg (N := 6) ?hd (cs := #[.int .i64 n,.int .i64 d]) (t := 24) ?hr ?_; (case hd => rfl); (case hg => rfl); (case hr => first | (go_simp; done) | (go_simp; rfl))); intro g1 hg w_g1 hbox hb; have n_ := am_ (below_step (by repeat first | (with_reducible first | exact HB.out | apply ba_ | apply bn_ | apply bd_) | exact HB.out) hb); have BKg1 := am_ hbox; have GEg1 := am_ (show w.heap.size ≤ g1 from by rw [hg]; exact below_size (by repeat first | (with_reducible first | exact HB.out | apply ba_ | apply bn_ | apply bd_) | exact HB.out)); clear HB ; have HB := n_; clear n_ hb hbox hg)
        refine (spec_l15Principal.calls p0 true _ G1.out).mono ?_
        rintro e w1_ ⟨rfl, hb0⟩
        have hb := db_ hb0
        clear hb0
        replace BKg1 := am_ (blk_below (blk_below BKg1.out (by repeat first | exact Below.refl _ _ | apply ba_ | apply bn_ | apply bd_)) hb); replace HB := am_ (below_step (by repeat first | (with_reducible first | exact HB.out | apply ba_ | apply bn_ | apply bd_) | exact HB.out) hb); clear hb
        have yg1_0 : w1_.cell? ⟨g1, 0, none⟩ = some (.int .i64 n) := (blk_cell BKg1.out 0).trans rfl; have fg1_0 := blk_frozen BKg1.out 0; have yg1_1 : w1_.cell? ⟨g1, 1, none⟩ = some (.int .i64 d) := (blk_cell BKg1.out 1).trans rfl; have fg1_1 := blk_frozen BKg1.out 1
        go_wp2_with fail
        clear yg1_0 fg1_0 yg1_1 fg1_1
        refine (spec_l15Rate.calls kr n d true _ G2.out).mono ?_
        rintro e w2_ ⟨rfl, hb⟩
        replace BKg1 := am_ (blk_below (blk_below BKg1.out (by repeat first | exact Below.refl _ _ | apply ba_ | apply bn_ | apply bd_)) hb); replace HB := am_ (below_step (by repeat first | (with_reducible first | exact HB.out | apply ba_ | apply bn_ | apply bd_) | exact HB.out) hb); clear hb
        go_wp2_with fail
        refine (spec_l1In.calls (xs.length : Int) 1 41 false _ G3.out).mono ?_
        rintro e w3_ ⟨rfl, hb0⟩
        have hb := db_ hb0
        clear hb0
        replace BKg1 := am_ (blk_below (blk_below BKg1.out (by repeat first | exact Below.refl _ _ | apply ba_ | apply bn_ | apply bd_)) hb); replace HB := am_ (below_step (by repeat first | (with_reducible first | exact HB.out | apply ba_ | apply bn_ | apply bd_) | exact HB.out) hb); clear hb
        go_wp2
        go_ret2
        exact ⟨rfl, (by repeat first | (with_reducible first | exact HB.out | apply ba_ | apply bn_ | apply bd_ | refine below_set ?_ GEg1.out) | exact HB.out)⟩
    · rw [decide_eq_false c1_] at g1_
      have G2 := am_ g1_
      clear g1_
      have hfin : compA p0 n d xs c mode = (0, false) := by unfold compA; rw [if_neg (fun v => c1_ v.2.1.1)]
      rw [hfin]
      clear hfin
      go_enter Try.func22, Try.ntmps22
      go_wp2_with (((with_reducible refine gate_dst (N := 6) rfl ?_); refine box_event ?hg (N := 6) ?hd (cs := #[.int .i64 n,.int .i64 d]) (t := 24) ?hr ?_; (case hd => rfl); (case hg => rfl); (case hr => first | (go_simp; done) | (go_simp; rfl))); intro g1 hg w_g1 hbox hb; have n_ := am_ (below_step (by repeat first | (with_reducible first | exact HB.out | apply ba_ | apply bn_ | apply bd_) | exact HB.out) hb); have BKg1 := am_ hbox; have GEg1 := am_ (show w.heap.size ≤ g1 from by rw [hg]; exact below_size (by repeat first | (with_reducible first | exact HB.out | apply ba_ | apply bn_ | apply bd_) | exact HB.out)); clear HB ; have HB := n_; clear n_ hb hbox hg)
      refine (spec_l15Principal.calls p0 true _ G1.out).mono ?_
      rintro e w1_ ⟨rfl, hb0⟩
      have hb := db_ hb0
      clear hb0
      replace BKg1 := am_ (blk_below (blk_below BKg1.out (by repeat first | exact Below.refl _ _ | apply ba_ | apply bn_ | apply bd_)) hb); replace HB := am_ (below_step (by repeat first | (with_reducible first | exact HB.out | apply ba_ | apply bn_ | apply bd_) | exact HB.out) hb); clear hb
      have yg1_0 : w1_.cell? ⟨g1, 0, none⟩ = some (.int .i64 n) := (blk_cell BKg1.out 0).trans rfl; have fg1_0 := blk_frozen BKg1.out 0; have yg1_1 : w1_.cell? ⟨g1, 1, none⟩ = some (.int .i64 d) := (blk_cell BKg1.out 1).trans rfl; have fg1_1 := blk_frozen BKg1.out 1
      go_wp2_with fail
      clear yg1_0 fg1_0 yg1_1 fg1_1
      refine (spec_l15Rate.calls kr n d false _ G2.out).mono ?_
      rintro e w2_ ⟨rfl, hb⟩
      replace BKg1 := am_ (blk_below (blk_below BKg1.out (by repeat first | exact Below.refl _ _ | apply ba_ | apply bn_ | apply bd_)) hb); replace HB := am_ (below_step (by repeat first | (with_reducible first | exact HB.out | apply ba_ | apply bn_ | apply bd_) | exact HB.out) hb); clear hb
      go_wp2
      go_ret2
      exact ⟨rfl, (by repeat first | (with_reducible first | exact HB.out | apply ba_ | apply bn_ | apply bd_ | refine below_set ?_ GEg1.out) | exact HB.out)⟩
  · rw [decide_eq_false c0_] at g0_
    have G1 := am_ g0_
    clear g0_
    have hfin : compA p0 n d xs c mode = (0, false) := by unfold compA; rw [if_neg (fun v => c0_ v.1)]
    rw [hfin]
    clear hfin
    go_enter Try.func22, Try.ntmps22
    go_wp2_with (((with_reducible refine gate_dst (N := 6) rfl ?_); refine box_event ?hg (N := 6) ?hd (cs := #[.int .i64 n,.int .i64 d]) (t := 24) ?hr ?_; (case hd => rfl); (case hg => rfl); (case hr => first | (go_simp; done) | (go_simp; rfl))); intro g1 hg w_g1 hbox hb; have n_ := am_ (below_step (by repeat first | (with_reducible first | exact HB.out | apply ba_ | apply bn_ | apply bd_) | exact HB.out) hb); have BKg1 := am_ hbox; have GEg1 := am_ (show w.heap.size ≤ g1 from by rw [hg]; exact below_size (by repeat first | (with_reducible first | exact HB.out | apply ba_ | apply bn_ | apply bd_) | exact HB.out)); clear HB ; have HB := n_; clear n_ hb hbox hg)
    refine (spec_l15Principal.calls p0 false _ G1.out).mono ?_
    rintro e w1_ ⟨rfl, hb0⟩
    have hb := db_ hb0
    clear hb0
    replace BKg1 := am_ (blk_below (blk_below BKg1.out (by repeat first | exact Below.refl _ _ | apply ba_ | apply bn_ | apply bd_)) hb); replace HB := am_ (below_step (by repeat first | (with_reducible first | exact HB.out | apply ba_ | apply bn_ | apply bd_) | exact HB.out) hb); clear hb
    go_wp2
    go_ret2
    exact ⟨rfl, (by repeat first | (with_reducible first | exact HB.out | apply ba_ | apply bn_ | apply bd_ | refine below_set ?_ GEg1.out) | exact HB.out)⟩
set_option maxHeartbeats 8000000 in
set_option maxRecDepth 100000 in
theorem fracI_c (a b : Int) (ha : a.natAbs ≤ 4000000000000000000) (hb : b.natAbs ≤ 4000000000000000000) (h0 : b ≠ 0) (w : World) :
    Calls Try.prog 56 #[.int .i64 a, .int .i64 b] w fun e w' => e = .returned (.tuple #[.agg #[.int .i64 (fracA a b).1, .int .i64 (fracA a b).2.1], .bool (fracA a b).2.2]) ∧ Below w.heap.size w w' := by
  have HB := am_ (Below.refl w.heap.size w)
  obtain ⟨kd, hkd⟩ := roundsOf (implDiv_ev a b (by omega) (by omega))
  obtain ⟨g, n, d, hg, hgb, hnb, hdb, hneg, hpos, hfin⟩ := frac_parts a b ha hb h0
  rw [hg] at hkd
  rw [hfin]
  obtain ⟨kf, hkf⟩ := roundsOf (implIsF_ev n d)
  have HKD := am_ hkd
  clear hkd hg hfin ha hb h0
  by_cases hok : okF n d
  · rw [decide_eq_true hok] at hkf
    rw [if_pos hok]
    have HKF := am_ hkf
    clear hkf hok
    by_cases cb : b < 0
    · have cbb : decide (b < 0) = true := decide_eq_true cb
      obtain ⟨hq1, hq2⟩ := hneg cb
      have HQ1 := am_ hq1
      have HQ2 := am_ hq2
      clear hneg hpos cb hq1 hq2
      go_enter Try.func56, Try.ntmps56
      go_wp2_with (((with_reducible refine gate_dst (N := 4) rfl ?_); refine box_event ?hg (N := 4) ?hd (cs := #[.int .i64 0, .int .i64 0]) (t := 24) ?hr ?_; (case hd => rfl); (case hg => rfl); (case hr => first | (go_simp; done) | (go_simp; rfl))); intro g1 hg w_g1 hbox hb; have n_ := am_ (below_step (by repeat first | (with_reducible first | exact HB.out | apply ba_ | apply bn_ | apply bd_) | exact HB.out) hb); have BKg1 := am_ hbox; have GEg1 := am_ (show w.heap.size ≤ g1 from by rw [hg]; exact below_size (by repeat first | (with_reducible first | exact HB.out | apply ba_ | apply bn_ | apply bd_) | exact HB.out)); clear HB ; have HB := n_; clear n_ hb hbox hg)
      refine (impl_divisor.calls kd a b g _ HKD.out).mono ?_
      rintro e w1 ⟨rfl, hb⟩
      replace BKg1 := am_ (blk_below (blk_below BKg1.out (by repeat first | exact Below.refl _ _ | apply ba_ | apply bn_ | apply bd_)) hb); replace HB := am_ (below_step (by repeat first | (with_reducible first | exact HB.out | apply ba_ | apply bn_ | apply bd_) | exact HB.out) hb); clear hb
      have hgz : ¬ (-g = 0) := by omega
      have hgz2 : ((-g : Int) == 0) = false := by rw [beq_eq_false_iff_ne]; omega
      go_upto_region 4 with (fail)
      have hq1 := HQ1.out
      have hq2 := HQ2.out
      go_cut [7] (fun v7 wx => ∃ g2, v7 = .pointer (some ⟨g2, 0, none⟩) ∧ Aside0 (w.heap.size ≤ g2) ∧ Aside0 (g1 ≠ g2) ∧ Aside0 (wx.heap[g1]? = some (.cells #[.int .i64 0, .int .i64 0] 24 (0, 0))) ∧ Aside0 (wx.heap[g2]? = some (.cells #[.int .i64 n, .int .i64 d] 24 (0, 0))) ∧ Aside0 (Below w.heap.size w wx))
      case first =>
        go_region
        all_goals (go_wp2_with fail; go_meet; exact ⟨_, rfl, ⟨below_size (by repeat first | (with_reducible first | exact HB.out | apply ba_ | apply bn_ | apply bd_) | exact HB.out)⟩, ⟨Nat.ne_of_lt (blk_lt (by (with_reducible repeat first | refine kn_ ?_ _ | refine kd_ ?_ | refine ka_ ?_ _); exact BKg1.out))⟩, ⟨blk_alloc (by (with_reducible repeat first | refine kn_ ?_ _ | refine kd_ ?_ | refine ka_ ?_ _); exact BKg1.out) _⟩, ⟨by first | exact blk_new _ _ | exact kd_ (blk_new _ _)⟩, ⟨(by repeat first | (with_reducible first | exact HB.out | apply ba_ | apply bn_ | apply bd_) | exact HB.out)⟩⟩)
      case rest =>
        clear BKg1 HB hq1 hq2
        obtain ⟨g2, rfl, GEg2, NEg1_g2, BKg1, BKg2, HB⟩ := hcut
        have yg2_0 : wc.cell? ⟨g2, 0, none⟩ = some (.int .i64 n) := (blk_cell BKg2.out 0).trans rfl; have fg2_0 := blk_frozen BKg2.out 0; have yg2_1 : wc.cell? ⟨g2, 1, none⟩ = some (.int .i64 d) := (blk_cell BKg2.out 1).trans rfl; have fg2_1 := blk_frozen BKg2.out 1
        go_wp2_with fail
        clear yg2_0 fg2_0 yg2_1 fg2_1
        refine (impl_isFraction.calls kf n d true _ HKF.out).mono ?_
        rintro e w2 ⟨rfl, hb⟩
        replace BKg1 := am_ (blk_below (blk_below BKg1.out (by repeat first | exact Below.refl _ _ | apply ba_ | apply bn_ | apply bd_)) hb); replace BKg2 := am_ (blk_below (blk_below BKg2.out (by repeat first | exact Below.refl _ _ | apply ba_ | apply bn_ | apply bd_)) hb); replace HB := am_ (below_step (by repeat first | (with_reducible first | exact HB.out | apply ba_ | apply bn_ | apply bd_) | exact HB.out) hb); clear hb
        have yg1_0 : w2.cell? ⟨g1, 0, none⟩ = some (.int .i64 0) := (blk_cell BKg1.out 0).trans rfl; have fg1_0 := blk_frozen BKg1.out 0; have yg1_1 : w2.cell? ⟨g1, 1, none⟩ = some (.int .i64 0) := (blk_cell BKg1.out 1).trans rfl; have fg1_1 := blk_frozen BKg1.out 1
        have yg2_0 : w2.cell? ⟨g2, 0, none⟩ = some (.int .i64 n) := (blk_cell BKg2.out 0).trans rfl; have fg2_0 := blk_frozen BKg2.out 0; have yg2_1 : w2.cell? ⟨g2, 1, none⟩ = some (.int .i64 d) := (blk_cell BKg2.out 1).trans rfl; have fg2_1 := blk_frozen BKg2.out 1
        have hn1_ := NEg1_g2.out
        have hn2_ := Ne.symm hn1_
        go_wp2
        refine bodyPost_ret (results_ct rfl _ _ g1 24 #[.int .i64 n, .int .i64 d] (0, 0) _ rfl (by (with_reducible repeat first | refine kn_ ?_ _ | refine kd_ ?_ | refine ka_ ?_ _); refine blk_put (cs := #[.int .i64 n, .int .i64 0]) ?_ 1 _ rfl; (with_reducible repeat first | refine kn_ ?_ _ | refine kd_ ?_ | refine ka_ ?_ _); refine blk_put (cs := #[.int .i64 0, .int .i64 0]) ?_ 0 _ rfl; (with_reducible repeat first | refine kn_ ?_ _ | refine kd_ ?_ | refine ka_ ?_ _); exact BKg1.out) Try.underlying24 rfl (by kernel_rfl)) rfl ?_
        exact ⟨rfl, (by repeat first | (with_reducible first | exact HB.out | apply ba_ | apply bn_ | apply bd_ | refine below_set ?_ GEg1.out) | exact HB.out)⟩
    · have cbb : decide (b < 0) = false := decide_eq_false cb
      obtain ⟨hq1, hq2⟩ := hpos cb
      have HQ1 := am_ hq1
      have HQ2 := am_ hq2
      clear hneg hpos cb hq1 hq2
      go_enter Try.func56, Try.ntmps56
      go_wp2_with (((with_reducible refine gate_dst (N := 4) rfl ?_); refine box_event ?hg (N := 4) ?hd (cs := #[.int .i64 0, .int .i64 0]) (t := 24) ?hr ?_; (case hd => rfl); (case hg => rfl); (case hr => first | (go_simp; done) | (go_simp; rfl))); intro g1 hg w_g1 hbox hb; have n_ := am_ (below_step (by repeat first | (with_reducible first | exact HB.out | apply ba_ | apply bn_ | apply bd_) | exact HB.out) hb); have BKg1 := am_ hbox; have GEg1 := am_ (show w.heap.size ≤ g1 from by rw [hg]; exact below_size (by repeat first | (with_reducible first | exact HB.out | apply ba_ | apply bn_ | apply bd_) | exact HB.out)); clear HB ; have HB := n_; clear n_ hb hbox hg)
      refine (impl_divisor.calls kd a b g _ HKD.out).mono ?_
      rintro e w1 ⟨rfl, hb⟩
      replace BKg1 := am_ (blk_below (blk_below BKg1.out (by repeat first | exact Below.refl _ _ | apply ba_ | apply bn_ | apply bd_)) hb); replace HB := am_ (below_step (by repeat first | (with_reducible first | exact HB.out | apply ba_ | apply bn_ | apply bd_) | exact HB.out) hb); clear hb
      have hgz : ¬ (g = 0) := by omega
      have hgz2 : ((g : Int) == 0) = false := by rw [beq_eq_false_iff_ne]; omega
      go_upto_region 4 with (fail)
      have hq1 := HQ1.out
      have hq2 := HQ2.out
      go_cut [7] (fun v7 wx => ∃ g2, v7 = .pointer (some ⟨g2, 0, none⟩) ∧ Aside0 (w.heap.size ≤ g2) ∧ Aside0 (g1 ≠ g2) ∧ Aside0 (wx.heap[g1]? = some (.cells #[.int .i64 0, .int .i64 0] 24 (0, 0))) ∧ Aside0 (wx.heap[g2]? = some (.cells #[.int .i64 n, .int .i64 d] 24 (0, 0))) ∧ Aside0 (Below w.heap.size w wx))
      case first =>
        go_region
        all_goals (go_wp2_with fail; go_meet; exact ⟨_, rfl, ⟨below_size (by repeat first | (with_reducible first | exact HB.out | apply ba_ | apply bn_ | apply bd_) | exact HB.out)⟩, ⟨Nat.ne_of_lt (blk_lt (by (with_reducible repeat first | refine kn_ ?_ _ | refine kd_ ?_ | refine ka_ ?_ _); exact BKg1.out))⟩, ⟨blk_alloc (by (with_reducible repeat first | refine kn_ ?_ _ | refine kd_ ?_ | refine ka_ ?_ _); exact BKg1.out) _⟩, ⟨by first | exact blk_new _ _ | exact kd_ (blk_new _ _)⟩, ⟨(by repeat first | (with_reducible first | exact HB.out | apply ba_ | apply bn_ | apply bd_) | exact HB.out)⟩⟩)
      case rest =>
        clear BKg1 HB hq1 hq2
        obtain ⟨g2, rfl, GEg2, NEg1_g2, BKg1, BKg2, HB⟩ := hcut
        have yg2_0 : wc.cell? ⟨g2, 0, none⟩ = some (.int .i64 n) := (blk_cell BKg2.out 0).trans rfl; have fg2_0 := blk_frozen BKg2.out 0; have yg2_1 : wc.cell? ⟨g2, 1, none⟩ = some (.int .i64 d) := (blk_cell BKg2.out 1).trans rfl; have fg2_1 := blk_frozen BKg2.out 1
        go_wp2_with fail
        clear yg2_0 fg2_0 yg2_1 fg2_1
        refine (impl_isFraction.calls kf n d true _ HKF.out).mono ?_
        rintro e w2 ⟨rfl, hb⟩
        replace BKg1 := am_ (blk_below (blk_below BKg1.out (by repeat first | exact Below.refl _ _ | apply ba_ | apply bn_ | apply bd_)) hb); replace BKg2 := am_ (blk_below (blk_below BKg2.out (by repeat first | exact Below.refl _ _ | apply ba_ | apply bn_ | apply bd_)) hb); replace HB := am_ (below_step (by repeat first | (with_reducible first | exact HB.out | apply ba_ | apply bn_ | apply bd_) | exact HB.out) hb); clear hb
        have yg1_0 : w2.cell? ⟨g1, 0, none⟩ = some (.int .i64 0) := (blk_cell BKg1.out 0).trans rfl; have fg1_0 := blk_frozen BKg1.out 0; have yg1_1 : w2.cell? ⟨g1, 1, none⟩ = some (.int .i64 0) := (blk_cell BKg1.out 1).trans rfl; have fg1_1 := blk_frozen BKg1.out 1
        have yg2_0 : w2.cell? ⟨g2, 0, none⟩ = some (.int .i64 n) := (blk_cell BKg2.out 0).trans rfl; have fg2_0 := blk_frozen BKg2.out 0; have yg2_1 : w2.cell? ⟨g2, 1, none⟩ = some (.int .i64 d) := (blk_cell BKg2.out 1).trans rfl; have fg2_1 := blk_frozen BKg2.out 1
        have hn1_ := NEg1_g2.out
        have hn2_ := Ne.symm hn1_
        go_wp2
        refine bodyPost_ret (results_ct rfl _ _ g1 24 #[.int .i64 n, .int .i64 d] (0, 0) _ rfl (by (with_reducible repeat first | refine kn_ ?_ _ | refine kd_ ?_ | refine ka_ ?_ _); refine blk_put (cs := #[.int .i64 n, .int .i64 0]) ?_ 1 _ rfl; (with_reducible repeat first | refine kn_ ?_ _ | refine kd_ ?_ | refine ka_ ?_ _); refine blk_put (cs := #[.int .i64 0, .int .i64 0]) ?_ 0 _ rfl; (with_reducible repeat first | refine kn_ ?_ _ | refine kd_ ?_ | refine ka_ ?_ _); exact BKg1.out) Try.underlying24 rfl (by kernel_rfl)) rfl ?_
        exact ⟨rfl, (by repeat first | (with_reducible first | exact HB.out | apply ba_ | apply bn_ | apply bd_ | refine below_set ?_ GEg1.out) | exact HB.out)⟩
  · rw [decide_eq_false hok] at hkf
    rw [if_neg hok]
    have HKF := am_ hkf
    clear hkf hok
    by_cases cb : b < 0
    · have cbb : decide (b < 0) = true := decide_eq_true cb
      obtain ⟨hq1, hq2⟩ := hneg cb
      have HQ1 := am_ hq1
      have HQ2 := am_ hq2
      clear hneg hpos cb hq1 hq2
      go_enter Try.func56, Try.ntmps56
      go_wp2_with (((with_reducible refine gate_dst (N := 4) rfl ?_); refine box_event ?hg (N := 4) ?hd (cs := #[.int .i64 0, .int .i64 0]) (t := 24) ?hr ?_; (case hd => rfl); (case hg => rfl); (case hr => first | (go_simp; done) | (go_simp; rfl))); intro g1 hg w_g1 hbox hb; have n_ := am_ (below_step (by repeat first | (with_reducible first | exact HB.out | apply ba_ | apply bn_ | apply bd_) | exact HB.out) hb); have BKg1 := am_ hbox; have GEg1 := am_ (show w.heap.size ≤ g1 from by rw [hg]; exact below_size (by repeat first | (with_reducible first | exact HB.out | apply ba_ | apply bn_ | apply bd_) | exact HB.out)); clear HB ; have HB := n_; clear n_ hb hbox hg)
      refine (impl_divisor.calls kd a b g _ HKD.out).mono ?_
      rintro e w1 ⟨rfl, hb⟩
      replace BKg1 := am_ (blk_below (blk_below BKg1.out (by repeat first | exact Below.refl _ _ | apply ba_ | apply bn_ | apply bd_)) hb); replace HB := am_ (below_step (by repeat first | (with_reducible first | exact HB.out | apply ba_ | apply bn_ | apply bd_) | exact HB.out) hb); clear hb
      have hgz : ¬ (-g = 0) := by omega
      have hgz2 : ((-g : Int) == 0) = false := by rw [beq_eq_false_iff_ne]; omega
      go_upto_region 4 with (fail)
      have hq1 := HQ1.out
      have hq2 := HQ2.out
      go_cut [7] (fun v7 wx => ∃ g2, v7 = .pointer (some ⟨g2, 0, none⟩) ∧ Aside0 (w.heap.size ≤ g2) ∧ Aside0 (g1 ≠ g2) ∧ Aside0 (wx.heap[g1]? = some (.cells #[.int .i64 0, .int .i64 0] 24 (0, 0))) ∧ Aside0 (wx.heap[g2]? = some (.cells #[.int .i64 n, .int .i64 d] 24 (0, 0))) ∧ Aside0 (Below w.heap.size w wx))
      case first =>
        go_region
        all_goals (go_wp2_with fail; go_meet; exact ⟨_, rfl, ⟨below_size (by repeat first | (with_reducible first | exact HB.out | apply ba_ | apply bn_ | apply bd_) | exact HB.out)⟩, ⟨Nat.ne_of_lt (blk_lt (by (with_reducible repeat first | refine kn_ ?_ _ | refine kd_ ?_ | refine ka_ ?_ _); exact BKg1.out))⟩, ⟨blk_alloc (by (with_reducible repeat first | refine kn_ ?_ _ | refine kd_ ?_ | refine ka_ ?_ _); exact BKg1.out) _⟩, ⟨by first | exact blk_new _ _ | exact kd_ (blk_new _ _)⟩, ⟨(by repeat first | (with_reducible first | exact HB.out | apply ba_ | apply bn_ | apply bd_) | exact HB.out)⟩⟩)
      case rest =>
        clear BKg1 HB hq1 hq2
        obtain ⟨g2, rfl, GEg2, NEg1_g2, BKg1, BKg2, HB⟩ := hcut
        have yg2_0 : wc.cell? ⟨g2, 0, none⟩ = some (.int .i64 n) := (blk_cell BKg2.out 0).trans rfl; have fg2_0 := blk_frozen BKg2.out 0; have yg2_1 : wc.cell? ⟨g2, 1, none⟩ = some (.int .i64 d) := (blk_cell BKg2.out 1).trans rfl; have fg2_1 := blk_frozen BKg2.out 1
        go_wp2_with fail
        clear yg2_0 fg2_0 yg2_1 fg2_1
        refine (impl_isFraction.calls kf n d false _ HKF.out).mono ?_
        rintro e w2 ⟨rfl, hb⟩
        replace BKg1 := am_ (blk_below (blk_below BKg1.out (by repeat first | exact Below.refl _ _ | apply ba_ | apply bn_ | apply bd_)) hb); replace BKg2 := am_ (blk_below (blk_below BKg2.out (by repeat first | exact Below.refl _ _ | apply ba_ | apply bn_ | apply bd_)) hb); replace HB := am_ (below_step (by repeat first | (with_reducible first | exact HB.out | apply ba_ | apply bn_ | apply bd_) | exact HB.out) hb); clear hb
        have yg1_0 : w2.cell? ⟨g1, 0, none⟩ = some (.int .i64 0) := (blk_cell BKg1.out 0).trans rfl; have fg1_0 := blk_frozen BKg1.out 0; have yg1_1 : w2.cell? ⟨g1, 1, none⟩ = some (.int .i64 0) := (blk_cell BKg1.out 1).trans rfl; have fg1_1 := blk_frozen BKg1.out 1
        have yg2_0 : w2.cell? ⟨g2, 0, none⟩ = some (.int .i64 n) := (blk_cell BKg2.out 0).trans rfl; have fg2_0 := blk_frozen BKg2.out 0; have yg2_1 : w2.cell? ⟨g2, 1, none⟩ = some (.int .i64 d) := (blk_cell BKg2.out 1).trans rfl; have fg2_1 := blk_frozen BKg2.out 1
        have hn1_ := NEg1_g2.out
        have hn2_ := Ne.symm hn1_
        go_wp2
        refine bodyPost_ret (results_ct rfl _ _ g1 24 #[.int .i64 0, .int .i64 0] (0, 0) _ rfl (by (with_reducible repeat first | refine kn_ ?_ _ | refine kd_ ?_ | refine ka_ ?_ _); refine blk_put (cs := #[.int .i64 0, .int .i64 0]) ?_ 1 _ rfl; (with_reducible repeat first | refine kn_ ?_ _ | refine kd_ ?_ | refine ka_ ?_ _); refine blk_put (cs := #[.int .i64 0, .int .i64 0]) ?_ 0 _ rfl; (with_reducible repeat first | refine kn_ ?_ _ | refine kd_ ?_ | refine ka_ ?_ _); exact BKg1.out) Try.underlying24 rfl (by kernel_rfl)) rfl ?_
        exact ⟨rfl, (by repeat first | (with_reducible first | exact HB.out | apply ba_ | apply bn_ | apply bd_ | refine below_set ?_ GEg1.out) | exact HB.out)⟩
    · have cbb : decide (b < 0) = false := decide_eq_false cb
      obtain ⟨hq1, hq2⟩ := hpos cb
      have HQ1 := am_ hq1
      have HQ2 := am_ hq2
      clear hneg hpos cb hq1 hq2
      go_enter Try.func56, Try.ntmps56
      go_wp2_with (((with_reducible refine gate_dst (N := 4) rfl ?_); refine box_event ?hg (N := 4) ?hd (cs := #[.int .i64 0, .int .i64 0]) (t := 24) ?hr ?_; (case hd => rfl); (case hg => rfl); (case hr => first | (go_simp; done) | (go_simp; rfl))); intro g1 hg w_g1 hbox hb; have n_ := am_ (below_step (by repeat first | (with_reducible first | exact HB.out | apply ba_ | apply bn_ | apply bd_) | exact HB.out) hb); have BKg1 := am_ hbox; have GEg1 := am_ (show w.heap.size ≤ g1 from by rw [hg]; exact below_size (by repeat first | (with_reducible first | exact HB.out | apply ba_ | apply bn_ | apply bd_) | exact HB.out)); clear HB ; have HB := n_; clear n_ hb hbox hg)
      refine (impl_divisor.calls kd a b g _ HKD.out).mono ?_
      rintro e w1 ⟨rfl, hb⟩
      replace BKg1 := am_ (blk_below (blk_below BKg1.out (by repeat first | exact Below.refl _ _ | apply ba_ | apply bn_ | apply bd_)) hb); replace HB := am_ (below_step (by repeat first | (with_reducible first | exact HB.out | apply ba_ | apply bn_ | apply bd_) | exact HB.out) hb); clear hb
      have hgz : ¬ (g = 0) := by omega
      have hgz2 : ((g : Int) == 0) = false := by rw [beq_eq_false_iff_ne]; omega
      go_upto_region 4 with (fail)
      have hq1 := HQ1.out
      have hq2 := HQ2.out
      go_cut [7] (fun v7 wx => ∃ g2, v7 = .pointer (some ⟨g2, 0, none⟩) ∧ Aside0 (w.heap.size ≤ g2) ∧ Aside0 (g1 ≠ g2) ∧ Aside0 (wx.heap[g1]? = some (.cells #[.int .i64 0, .int .i64 0] 24 (0, 0))) ∧ Aside0 (wx.heap[g2]? = some (.cells #[.int .i64 n, .int .i64 d] 24 (0, 0))) ∧ Aside0 (Below w.heap.size w wx))
      case first =>
        go_region
        all_goals (go_wp2_with fail; go_meet; exact ⟨_, rfl, ⟨below_size (by repeat first | (with_reducible first | exact HB.out | apply ba_ | apply bn_ | apply bd_) | exact HB.out)⟩, ⟨Nat.ne_of_lt (blk_lt (by (with_reducible repeat first | refine kn_ ?_ _ | refine kd_ ?_ | refine ka_ ?_ _); exact BKg1.out))⟩, ⟨blk_alloc (by (with_reducible repeat first | refine kn_ ?_ _ | refine kd_ ?_ | refine ka_ ?_ _); exact BKg1.out) _⟩, ⟨by first | exact blk_new _ _ | exact kd_ (blk_new _ _)⟩, ⟨(by repeat first | (with_reducible first | exact HB.out | apply ba_ | apply bn_ | apply bd_) | exact HB.out)⟩⟩)
      case rest =>
        clear BKg1 HB hq1 hq2
        obtain ⟨g2, rfl, GEg2, NEg1_g2, BKg1, BKg2, HB⟩ := hcut
        have yg2_0 : wc.cell? ⟨g2, 0, none⟩ = some (.int .i64 n) := (blk_cell BKg2.out 0).trans rfl; have fg2_0 := blk_frozen BKg2.out 0; have yg2_1 : wc.cell? ⟨g2, 1, none⟩ = some (.int .i64 d) := (blk_cell BKg2.out 1).trans rfl; have fg2_1 := blk_frozen BKg2.out 1
        go_wp2_with fail
        clear yg2_0 fg2_0 yg2_1 fg2_1
        refine (impl_isFraction.calls kf n d false _ HKF.out).mono ?_
        rintro e w2 ⟨rfl, hb⟩
        replace BKg1 := am_ (blk_below (blk_below BKg1.out (by repeat first | exact Below.refl _ _ | apply ba_ | apply bn_ | apply bd_)) hb); replace BKg2 := am_ (blk_below (blk_below BKg2.out (by repeat first | exact Below.refl _ _ | apply ba_ | apply bn_ | apply bd_)) hb); replace HB := am_ (below_step (by repeat first | (with_reducible first | exact HB.out | apply ba_ | apply bn_ | apply bd_) | exact HB.out) hb); clear hb
        have yg1_0 : w2.cell? ⟨g1, 0, none⟩ = some (.int .i64 0) := (blk_cell BKg1.out 0).trans rfl; have fg1_0 := blk_frozen BKg1.out 0; have yg1_1 : w2.cell? ⟨g1, 1, none⟩ = some (.int .i64 0) := (blk_cell BKg1.out 1).trans rfl; have fg1_1 := blk_frozen BKg1.out 1
        have yg2_0 : w2.cell? ⟨g2, 0, none⟩ = some (.int .i64 n) := (blk_cell BKg2.out 0).trans rfl; have fg2_0 := blk_frozen BKg2.out 0; have yg2_1 : w2.cell? ⟨g2, 1, none⟩ = some (.int .i64 d) := (blk_cell BKg2.out 1).trans rfl; have fg2_1 := blk_frozen BKg2.out 1
        have hn1_ := NEg1_g2.out
        have hn2_ := Ne.symm hn1_
        go_wp2
        refine bodyPost_ret (results_ct rfl _ _ g1 24 #[.int .i64 0, .int .i64 0] (0, 0) _ rfl (by (with_reducible repeat first | refine kn_ ?_ _ | refine kd_ ?_ | refine ka_ ?_ _); refine blk_put (cs := #[.int .i64 0, .int .i64 0]) ?_ 1 _ rfl; (with_reducible repeat first | refine kn_ ?_ _ | refine kd_ ?_ | refine ka_ ?_ _); refine blk_put (cs := #[.int .i64 0, .int .i64 0]) ?_ 0 _ rfl; (with_reducible repeat first | refine kn_ ?_ _ | refine kd_ ?_ | refine ka_ ?_ _); exact BKg1.out) Try.underlying24 rfl (by kernel_rfl)) rfl ?_
        exact ⟨rfl, (by repeat first | (with_reducible first | exact HB.out | apply ba_ | apply bn_ | apply bd_ | refine below_set ?_ GEg1.out) | exact HB.out)⟩
theorem fracI_e (a : Int) {a' : Int} (e : a' = a) (b : Int) (ha : a.natAbs ≤ 4000000000000000000) (hb : b.natAbs ≤ 4000000000000000000) (h0 : b ≠ 0) (w : World) :
    Calls Try.prog 56 #[.int .i64 a', .int .i64 b] w fun e w' => e = .returned (.tuple #[.agg #[.int .i64 (fracA a b).1, .int .i64 (fracA a b).2.1], .bool (fracA a b).2.2]) ∧ Below w.heap.size w w' := by
  subst e
  exact fracI_c _ b ha hb h0 w
set_option maxHeartbeats 8000000 in
set_option maxRecDepth 100000 in
theorem multI_c (n d n1 d1 : Int) (w : World) :
    Calls Try.prog 107 #[.agg #[.int .i64 n, .int .i64 d], .agg #[.int .i64 n1, .int .i64 d1]] w fun e w' => e = .returned (.tuple #[.agg #[.int .i64 (multA n d n1 d1).1, .int .i64 (multA n d n1 d1).2.1], .bool (multA n d n1 d1).2.2]) ∧ Below w.heap.size w w' := by
  have HB := am_ (Below.refl w.heap.size w)
  obtain ⟨ka, ha⟩ := roundsOf (implIsF_ev n d)
  obtain ⟨kb, hbb⟩ := roundsOf (implIsF_ev n1 d1)
  have g0_ := ha
  by_cases c0_ : okF n d
  · rw [decide_eq_true c0_] at g0_
    have G1 := am_ g0_
    clear g0_
    have g1_ := hbb
    by_cases c1_ : okF n1 d1
    · rw [decide_eq_true c1_] at g1_
      have G2 := am_ g1_
      clear g1_
      have hm := okF_mul c0_ c1_
      have hfin : multA n d n1 d1 = fracA (n * n1) (d * d1) := by unfold multA; rw [if_pos ⟨c0_, c1_⟩]
      rw [hfin]
      obtain ⟨P, hP⟩ : ∃ P, P = n * n1 := ⟨_, rfl⟩
      obtain ⟨Q, hQ⟩ : ∃ Q, Q = d * d1 := ⟨_, rfl⟩
      rw [← hP, ← hQ] at hm ⊢
      have hw1 : IntKind.i64.wrap (n * n1) = P := by rw [← hP]; exact IntWalk.i64_in _ (by omega)
      have hw2 : IntKind.i64.wrap (d * d1) = Q := by rw [← hQ]; exact IntWalk.i64_in _ (by omega)
      obtain ⟨FR, hFR⟩ : ∃ F, F = fracA P Q := ⟨_, rfl⟩
      have HFR := am_ hFR.symm
      rw [← hFR]
      obtain ⟨n2, d2, o2⟩ := FR
      clear hFR
      have HPA := am_ (show P.natAbs ≤ 4000000000000000000 ∧ Q.natAbs ≤ 4000000000000000000 ∧ Q ≠ 0 from by omega)
      clear hfin hP hQ c0_ c1_
      go_enter Try.func107, Try.ntmps107
      go_wp2_with (first
        | (((with_reducible refine gate_dst (N := 2) rfl ?_); refine box_event ?hg (N := 2) ?hd (cs := #[.int .i64 n,.int .i64 d]) (t := 24) ?hr ?_; (case hd => rfl); (case hg => rfl); (case hr => first | (go_simp; done) | (go_simp; rfl))); intro g1 hg w_g1 hbox hb; have n_ := am_ (below_step (by repeat first | (with_reducible first | exact HB.out | apply ba_ | apply bn_ | apply bd_) | exact HB.out) hb); have BKg1 := am_ hbox; have GEg1 := am_ (show w.heap.size ≤ g1 from by rw [hg]; exact below_size (by repeat first | (with_reducible first | exact HB.out | apply ba_ | apply bn_ | apply bd_) | exact HB.out)); clear HB ; have HB := n_; clear n_ hb hbox hg)
        | (((with_reducible refine gate_dst (N := 3) rfl ?_); refine box_event ?hg (N := 3) ?hd (cs := #[.int .i64 n1,.int .i64 d1]) (t := 24) ?hr ?_; (case hd => rfl); (case hg => rfl); (case hr => first | (go_simp; done) | (go_simp; rfl))); intro g2 hg w_g2 hbox hb; have n_ := am_ (below_step (by repeat first | (with_reducible first | exact HB.out | apply ba_ | apply bn_ | apply bd_ | refine below_set ?_ GEg1.out) | exact HB.out) hb); have m_g1 := am_ (blk_below (blk_below BKg1.out (by repeat first | exact Below.refl _ _ | apply ba_ | apply bn_ | apply bd_)) hb); have NEg1_g2 := am_ (show g1 ≠ g2 from by rw [hg]; exact Nat.ne_of_lt (blk_lt (blk_below BKg1.out (by repeat first | exact Below.refl _ _ | apply ba_ | apply bn_ | apply bd_)))); have NEg2_g1 := am_ (Ne.symm NEg1_g2.out); have BKg2 := am_ hbox; have GEg2 := am_ (show w.heap.size ≤ g2 from by rw [hg]; exact below_size (by repeat first | (with_reducible first | exact HB.out | apply ba_ | apply bn_ | apply bd_ | refine below_set ?_ GEg1.out) | exact HB.out)); clear HB BKg1; have HB := n_; clear n_ hb hbox hg; have BKg1 := m_g1; clear m_g1)
        | ((((with_reducible refine gate_dst (N := 4) rfl ?_); refine box_event ?hg (N := 4) ?hd (cs := #[.int .i64 0,.int .i64 0]) (t := 24) ?hr ?_; (case hd => rfl); (case hg => rfl); (case hr => first | (go_simp; done) | (go_simp; rfl))); intro g3 hg w_g3 hbox hb; have n_ := am_ (below_step (by repeat first | (with_reducible first | exact HB.out | apply ba_ | apply bn_ | apply bd_ | refine below_set ?_ GEg1.out | refine below_set ?_ GEg2.out) | exact HB.out) hb); have m_g1 := am_ (blk_below (blk_below BKg1.out (by repeat first | exact Below.refl _ _ | apply ba_ | apply bn_ | apply bd_)) hb); have NEg1_g3 := am_ (show g1 ≠ g3 from by rw [hg]; exact Nat.ne_of_lt (blk_lt (blk_below BKg1.out (by repeat first | exact Below.refl _ _ | apply ba_ | apply bn_ | apply bd_)))); have NEg3_g1 := am_ (Ne.symm NEg1_g3.out); have m_g2 := am_ (blk_below (blk_below BKg2.out (by repeat first | exact Below.refl _ _ | apply ba_ | apply bn_ | apply bd_)) hb); have NEg2_g3 := am_ (show g2 ≠ g3 from by rw [hg]; exact Nat.ne_of_lt (blk_lt (blk_below BKg2.out (by repeat first | exact Below.refl _ _ | apply ba_ | apply bn_ | apply bd_)))); have NEg3_g2 := am_ (Ne.symm NEg2_g3.out); have BKg3 := am_ hbox; have GEg3 := am_ (show w.heap.size ≤ g3 from by rw [hg]; exact below_size (by repeat first | (with_reducible first | exact HB.out | apply ba_ | apply bn_ | apply bd_ | refine below_set ?_ GEg1.out | refine below_set ?_ GEg2.out) | exact HB.out)); clear HB BKg1 BKg2; have HB := n_; clear n_ hb hbox hg; have BKg1 := m_g1; clear m_g1; have BKg2 := m_g2; clear m_g2); have yg1_0 : w_g3.cell? ⟨g1, 0, none⟩ = some (.int .i64 n) := (blk_cell BKg1.out 0).trans rfl; have fg1_0 := blk_frozen BKg1.out 0; have yg1_1 : w_g3.cell? ⟨g1, 1, none⟩ = some (.int .i64 d) := (blk_cell BKg1.out 1).trans rfl; have fg1_1 := blk_frozen BKg1.out 1)
        )
      clear yg1_0 fg1_0 yg1_1 fg1_1
      refine (impl_isFraction.calls ka n d true _ G1.out).mono ?_
      rintro e w1_ ⟨rfl, hb⟩
      replace BKg1 := am_ (blk_below (blk_below BKg1.out (by repeat first | exact Below.refl _ _ | apply ba_ | apply bn_ | apply bd_)) hb); replace BKg2 := am_ (blk_below (blk_below BKg2.out (by repeat first | exact Below.refl _ _ | apply ba_ | apply bn_ | apply bd_)) hb); replace BKg3 := am_ (blk_below (blk_below BKg3.out (by repeat first | exact Below.refl _ _ | apply ba_ | apply bn_ | apply bd_)) hb); replace HB := am_ (below_step (by repeat first | (with_reducible first | exact HB.out | apply ba_ | apply bn_ | apply bd_) | exact HB.out) hb); clear hb
      have yg2_0 : w1_.cell? ⟨g2, 0, none⟩ = some (.int .i64 n1) := (blk_cell BKg2.out 0).trans rfl; have fg2_0 := blk_frozen BKg2.out 0; have yg2_1 : w1_.cell? ⟨g2, 1, none⟩ = some (.int .i64 d1) := (blk_cell BKg2.out 1).trans rfl; have fg2_1 := blk_frozen BKg2.out 1
      go_wp2_with fail
      clear yg2_0 fg2_0 yg2_1 fg2_1
      refine (impl_isFraction.calls kb n1 d1 true _ G2.out).mono ?_
      rintro e w2_ ⟨rfl, hb⟩
      replace BKg1 := am_ (blk_below (blk_below BKg1.out (by repeat first | exact Below.refl _ _ | apply ba_ | apply bn_ | apply bd_)) hb); replace BKg2 := am_ (blk_below (blk_below BKg2.out (by repeat first | exact Below.refl _ _ | apply ba_ | apply bn_ | apply bd_)) hb); replace BKg3 := am_ (blk_below (blk_below BKg3.out (by repeat first | exact Below.refl _ _ | apply ba_ | apply bn_ | apply bd_)) hb); replace HB := am_ (below_step (by repeat first | (with_reducible first | exact HB.out | apply ba_ | apply bn_ | apply bd_) | exact HB.out) hb); clear hb
      have yg1_0 : w2_.cell? ⟨g1, 0, none⟩ = some (.int .i64 n) := (blk_cell BKg1.out 0).trans rfl; have fg1_0 := blk_frozen BKg1.out 0; have yg1_1 : w2_.cell? ⟨g1, 1, none⟩ = some (.int .i64 d) := (blk_cell BKg1.out 1).trans rfl; have fg1_1 := blk_frozen BKg1.out 1
      have yg2_0 : w2_.cell? ⟨g2, 0, none⟩ = some (.int .i64 n1) := (blk_cell BKg2.out 0).trans rfl; have fg2_0 := blk_frozen BKg2.out 0; have yg2_1 : w2_.cell? ⟨g2, 1, none⟩ = some (.int .i64 d1) := (blk_cell BKg2.out 1).trans rfl; have fg2_1 := blk_frozen BKg2.out 1
      go_wp2_with fail
      clear yg1_0 fg1_0 yg1_1 fg1_1
      clear yg2_0 fg2_0 yg2_1 fg2_1
      refine (fracI_c P Q HPA.out.1 HPA.out.2.1 HPA.out.2.2 _).mono ?_
      rw [HFR.out]
      rintro e w3_ ⟨rfl, hb⟩
      replace BKg1 := am_ (blk_below (blk_below BKg1.out (by repeat first | exact Below.refl _ _ | apply ba_ | apply bn_ | apply bd_)) hb); replace BKg2 := am_ (blk_below (blk_below BKg2.out (by repeat first | exact Below.refl _ _ | apply ba_ | apply bn_ | apply bd_)) hb); replace BKg3 := am_ (blk_below (blk_below BKg3.out (by repeat first | exact Below.refl _ _ | apply ba_ | apply bn_ | apply bd_)) hb); replace HB := am_ (below_step (by repeat first | (with_reducible first | exact HB.out | apply ba_ | apply bn_ | apply bd_) | exact HB.out) hb); clear hb
      have yg3_0 : w3_.cell? ⟨g3, 0, none⟩ = some (.int .i64 0) := (blk_cell BKg3.out 0).trans rfl; have fg3_0 := blk_frozen BKg3.out 0; have yg3_1 : w3_.cell? ⟨g3, 1, none⟩ = some (.int .i64 0) := (blk_cell BKg3.out 1).trans rfl; have fg3_1 := blk_frozen BKg3.out 1
      go_wp2
      refine bodyPost_ret (results_ct rfl _ _ g3 24 #[.int .i64 n2, .int .i64 d2] (0, 0) _ rfl (by (with_reducible repeat first | refine kn_ ?_ _ | refine kd_ ?_ | refine ka_ ?_ _); refine blk_put (cs := #[.int .i64 n2, .int .i64 0]) ?_ 1 _ rfl; (with_reducible repeat first | refine kn_ ?_ _ | refine kd_ ?_ | refine ka_ ?_ _); refine blk_put (cs := #[.int .i64 0, .int .i64 0]) ?_ 0 _ rfl; (with_reducible repeat first | refine kn_ ?_ _ | refine kd_ ?_ | refine ka_ ?_ _); exact BKg3.out) Try.underlying24 rfl (by kernel_rfl)) rfl ?_
      exact ⟨rfl, (by repeat first | (with_reducible first | exact HB.out | apply ba_ | apply bn_ | apply bd_ | refine below_set ?_ GEg1.out | refine below_set ?_ GEg2.out | refine below_set ?_ GEg3.out) | exact HB.out)⟩
    · rw [decide_eq_false c1_] at g1_
      have G2 := am_ g1_
      clear g1_
      have hfin : multA n d n1 d1 = (0, 0, false) := by unfold multA; rw [if_neg (fun v => c1_ v.2)]
      rw [hfin]
      clear hfin
      go_enter Try.func107, Try.ntmps107
      go_wp2_with (first
        | (((with_reducible refine gate_dst (N := 2) rfl ?_); refine box_event ?hg (N := 2) ?hd (cs := #[.int .i64 n,.int .i64 d]) (t := 24) ?hr ?_; (case hd => rfl); (case hg => rfl); (case hr => first | (go_simp; done) | (go_simp; rfl))); intro g1 hg w_g1 hbox hb; have n_ := am_ (below_step (by repeat first | (with_reducible first | exact HB.out | apply ba_ | apply bn_ | apply bd_) | exact HB.out) hb); have BKg1 := am_ hbox; have GEg1 := am_ (show w.heap.size ≤ g1 from by rw [hg]; exact below_size (by repeat first | (with_reducible first | exact HB.out | apply ba_ | apply bn_ | apply bd_) | exact HB.out)); clear HB ; have HB := n_; clear n_ hb hbox hg)
        | (((with_reducible refine gate_dst (N := 3) rfl ?_); refine box_event ?hg (N := 3) ?hd (cs := #[.int .i64 n1,.int .i64 d1]) (t := 24) ?hr ?_; (case hd => rfl); (case hg => rfl); (case hr => first | (go_simp; done) | (go_simp; rfl))); intro g2 hg w_g2 hbox hb; have n_ := am_ (below_step (by repeat first | (with_reducible first | exact HB.out | apply ba_ | apply bn_ | apply bd_ | refine below_set ?_ GEg1.out) | exact HB.out) hb); have m_g1 := am_ (blk_below (blk_below BKg1.out (by repeat first | exact Below.refl _ _ | apply ba_ | apply bn_ | apply bd_)) hb); have NEg1_g2 := am_ (show g1 ≠ g2 from by rw [hg]; exact Nat.ne_of_lt (blk_lt (blk_below BKg1.out (by repeat first | exact Below.refl _ _ | apply ba_ | apply bn_ | apply bd_)))); have NEg2_g1 := am_ (Ne.symm NEg1_g2.out); have BKg2 := am_ hbox; have GEg2 := am_ (show w.heap.size ≤ g2 from by rw [hg]; exact below_size (by repeat first | (with_reducible first | exact HB.out | apply ba_ | apply bn_ | apply bd_ | refine below_set ?_ GEg1.out) | exact HB.out)); clear HB BKg1; have HB := n_; clear n_ hb hbox hg; have BKg1 := m_g1; clear m_g1)
        | ((((with_reducible refine gate_dst (N := 4) rfl ?_); refine box_event ?hg (N := 4) ?hd (cs := #[.int .i64 0,.int .i64 0]) (t := 24) ?hr ?_; (case hd => rfl); (case hg => rfl); (case hr => first | (go_simp; done) | (go_simp; rfl))); intro g3 hg w_g3 hbox hb; have n_ := am_ (below_step (by repeat first | (with_reducible first | exact HB.out | apply ba_ | apply bn_ | apply bd_ | refine below_set ?_ GEg1.out | refine below_set ?_ GEg2.out) | exact HB.out) hb); have m_g1 := am_ (blk_below (blk_below BKg1.out (by repeat first | exact Below.refl _ _ | apply ba_ | apply bn_ | apply bd_)) hb); have NEg1_g3 := am_ (show g1 ≠ g3 from by rw [hg]; exact Nat.ne_of_lt (blk_lt (blk_below BKg1.out (by repeat first | exact Below.refl _ _ | apply ba_ | apply bn_ | apply bd_)))); have NEg3_g1 := am_ (Ne.symm NEg1_g3.out); have m_g2 := am_ (blk_below (blk_below BKg2.out (by repeat first | exact Below.refl _ _ | apply ba_ | apply bn_ | apply bd_)) hb); have NEg2_g3 := am_ (show g2 ≠ g3 from by rw [hg]; exact Nat.ne_of_lt (blk_lt (blk_below BKg2.out (by repeat first | exact Below.refl _ _ | apply ba_ | apply bn_ | apply bd_)))); have NEg3_g2 := am_ (Ne.symm NEg2_g3.out); have BKg3 := am_ hbox; have GEg3 := am_ (show w.heap.size ≤ g3 from by rw [hg]; exact below_size (by repeat first | (with_reducible first | exact HB.out | apply ba_ | apply bn_ | apply bd_ | refine below_set ?_ GEg1.out | refine below_set ?_ GEg2.out) | exact HB.out)); clear HB BKg1 BKg2; have HB := n_; clear n_ hb hbox hg; have BKg1 := m_g1; clear m_g1; have BKg2 := m_g2; clear m_g2); have yg1_0 : w_g3.cell? ⟨g1, 0, none⟩ = some (.int .i64 n) := (blk_cell BKg1.out 0).trans rfl; have fg1_0 := blk_frozen BKg1.out 0; have yg1_1 : w_g3.cell? ⟨g1, 1, none⟩ = some (.int .i64 d) := (blk_cell BKg1.out 1).trans rfl; have fg1_1 := blk_frozen BKg1.out 1)
        )
      clear yg1_0 fg1_0 yg1_1 fg1_1
      refine (impl_isFraction.calls ka n d true _ G1.out).mono ?_
      rintro e w1_ ⟨rfl, hb⟩
      replace BKg1 := am_ (blk_below (blk_below BKg1.out (by repeat first | exact Below.refl _ _ | apply ba_ | apply bn_ | apply bd_)) hb); replace BKg2 := am_ (blk_below (blk_below BKg2.out (by repeat first | exact Below.refl _ _ | apply ba_ | apply bn_ | apply bd_)) hb); replace BKg3 := am_ (blk_below (blk_below BKg3.out (by repeat first | exact Below.refl _ _ | apply ba_ | apply bn_ | apply bd_)) hb); replace HB := am_ (below_step (by repeat first | (with_reducible first | exact HB.out | apply ba_ | apply bn_ | apply bd_) | exact HB.out) hb); clear hb
      have yg2_0 : w1_.cell? ⟨g2, 0, none⟩ = some (.int .i64 n1) := (blk_cell BKg2.out 0).trans rfl; have fg2_0 := blk_frozen BKg2.out 0; have yg2_1 : w1_.cell? ⟨g2, 1, none⟩ = some (.int .i64 d1) := (blk_cell BKg2.out 1).trans rfl; have fg2_1 := blk_frozen BKg2.out 1
      go_wp2_with fail
      clear yg2_0 fg2_0 yg2_1 fg2_1
      refine (impl_isFraction.calls kb n1 d1 false _ G2.out).mono ?_
      rintro e w2_ ⟨rfl, hb⟩
      replace BKg1 := am_ (blk_below (blk_below BKg1.out (by repeat first | exact Below.refl _ _ | apply ba_ | apply bn_ | apply bd_)) hb); replace BKg2 := am_ (blk_below (blk_below BKg2.out (by repeat first | exact Below.refl _ _ | apply ba_ | apply bn_ | apply bd_)) hb); replace BKg3 := am_ (blk_below (blk_below BKg3.out (by repeat first | exact Below.refl _ _ | apply ba_ | apply bn_ | apply bd_)) hb); replace HB := am_ (below_step (by repeat first | (with_reducible first | exact HB.out | apply ba_ | apply bn_ | apply bd_) | exact HB.out) hb); clear hb
      have yg3_0 : w2_.cell? ⟨g3, 0, none⟩ = some (.int .i64 0) := (blk_cell BKg3.out 0).trans rfl; have fg3_0 := blk_frozen BKg3.out 0; have yg3_1 : w2_.cell? ⟨g3, 1, none⟩ = some (.int .i64 0) := (blk_cell BKg3.out 1).trans rfl; have fg3_1 := blk_frozen BKg3.out 1
      go_wp2
      refine bodyPost_ret (results_ct rfl _ _ g3 24 #[.int .i64 0, .int .i64 0] (0, 0) _ rfl (by (with_reducible repeat first | refine kn_ ?_ _ | refine kd_ ?_ | refine ka_ ?_ _); refine blk_put (cs := #[.int .i64 0, .int .i64 0]) ?_ 1 _ rfl; (with_reducible repeat first | refine kn_ ?_ _ | refine kd_ ?_ | refine ka_ ?_ _); refine blk_put (cs := #[.int .i64 0, .int .i64 0]) ?_ 0 _ rfl; (with_reducible repeat first | refine kn_ ?_ _ | refine kd_ ?_ | refine ka_ ?_ _); exact BKg3.out) Try.underlying24 rfl (by kernel_rfl)) rfl ?_
      exact ⟨rfl, (by repeat first | (with_reducible first | exact HB.out | apply ba_ | apply bn_ | apply bd_ | refine below_set ?_ GEg1.out | refine below_set ?_ GEg2.out | refine below_set ?_ GEg3.out) | exact HB.out)⟩
  · rw [decide_eq_false c0_] at g0_
    have G1 := am_ g0_
    clear g0_
    have hfin : multA n d n1 d1 = (0, 0, false) := by unfold multA; rw [if_neg (fun v => c0_ v.1)]
    rw [hfin]
    clear hfin
    go_enter Try.func107, Try.ntmps107
    go_wp2_with (first
      | (((with_reducible refine gate_dst (N := 2) rfl ?_); refine box_event ?hg (N := 2) ?hd (cs := #[.int .i64 n,.int .i64 d]) (t := 24) ?hr ?_; (case hd => rfl); (case hg => rfl); (case hr => first | (go_simp; done) | (go_simp; rfl))); intro g1 hg w_g1 hbox hb; have n_ := am_ (below_step (by repeat first | (with_reducible first | exact HB.out | apply ba_ | apply bn_ | apply bd_) | exact HB.out) hb); have BKg1 := am_ hbox; have GEg1 := am_ (show w.heap.size ≤ g1 from by rw [hg]; exact below_size (by repeat first | (with_reducible first | exact HB.out | apply ba_ | apply bn_ | apply bd_) | exact HB.out)); clear HB ; have HB := n_; clear n_ hb hbox hg)
      | (((with_reducible refine gate_dst (N := 3) rfl ?_); refine box_event ?hg (N := 3) ?hd (cs := #[.int .i64 n1,.int .i64 d1]) (t := 24) ?hr ?_; (case hd => rfl); (case hg => rfl); (case hr => first | (go_simp; done) | (go_simp; rfl))); intro g2 hg w_g2 hbox hb; have n_ := am_ (below_step (by repeat first | (with_reducible first | exact HB.out | apply ba_ | apply bn_ | apply bd_ | refine below_set ?_ GEg1.out) | exact HB.out) hb); have m_g1 := am_ (blk_below (blk_below BKg1.out (by repeat first | exact Below.refl _ _ | apply ba_ | apply bn_ | apply bd_)) hb); have NEg1_g2 := am_ (show g1 ≠ g2 from by rw [hg]; exact Nat.ne_of_lt (blk_lt (blk_below BKg1.out (by repeat first | exact Below.refl _ _ | apply ba_ | apply bn_ | apply bd_)))); have NEg2_g1 := am_ (Ne.symm NEg1_g2.out); have BKg2 := am_ hbox; have GEg2 := am_ (show w.heap.size ≤ g2 from by rw [hg]; exact below_size (by repeat first | (with_reducible first | exact HB.out | apply ba_ | apply bn_ | apply bd_ | refine below_set ?_ GEg1.out) | exact HB.out)); clear HB BKg1; have HB := n_; clear n_ hb hbox hg; have BKg1 := m_g1; clear m_g1)
      | ((((with_reducible refine gate_dst (N := 4) rfl ?_); refine box_event ?hg (N := 4) ?hd (cs := #[.int .i64 0,.int .i64 0]) (t := 24) ?hr ?_; (case hd => rfl); (case hg => rfl); (case hr => first | (go_simp; done) | (go_simp; rfl))); intro g3 hg w_g3 hbox hb; have n_ := am_ (below_step (by repeat first | (with_reducible first | exact HB.out | apply ba_ | apply bn_ | apply bd_ | refine below_set ?_ GEg1.out | refine below_set ?_ GEg2.out) | exact HB.out) hb); have m_g1 := am_ (blk_below (blk_below BKg1.out (by repeat first | exact Below.refl _ _ | apply ba_ | apply bn_ | apply bd_)) hb); have NEg1_g3 := am_ (show g1 ≠ g3 from by rw [hg]; exact Nat.ne_of_lt (blk_lt (blk_below BKg1.out (by repeat first | exact Below.refl _ _ | apply ba_ | apply bn_ | apply bd_)))); have NEg3_g1 := am_ (Ne.symm NEg1_g3.out); have m_g2 := am_ (blk_below (blk_below BKg2.out (by repeat first | exact Below.refl _ _ | apply ba_ | apply bn_ | apply bd_)) hb); have NEg2_g3 := am_ (show g2 ≠ g3 from by rw [hg]; exact Nat.ne_of_lt (blk_lt (blk_below BKg2.out (by repeat first | exact Below.refl _ _ | apply ba_ | apply bn_ | apply bd_)))); have NEg3_g2 := am_ (Ne.symm NEg2_g3.out); have BKg3 := am_ hbox; have GEg3 := am_ (show w.heap.size ≤ g3 from by rw [hg]; exact below_size (by repeat first | (with_reducible first | exact HB.out | apply ba_ | apply bn_ | apply bd_ | refine below_set ?_ GEg1.out | refine below_set ?_ GEg2.out) | exact HB.out)); clear HB BKg1 BKg2; have HB := n_; clear n_ hb hbox hg; have BKg1 := m_g1; clear m_g1; have BKg2 := m_g2; clear m_g2); have yg1_0 : w_g3.cell? ⟨g1, 0, none⟩ = some (.int .i64 n) := (blk_cell BKg1.out 0).trans rfl; have fg1_0 := blk_frozen BKg1.out 0; have yg1_1 : w_g3.cell? ⟨g1, 1, none⟩ = some (.int .i64 d) := (blk_cell BKg1.out 1).trans rfl; have fg1_1 := blk_frozen BKg1.out 1)
      )
    clear yg1_0 fg1_0 yg1_1 fg1_1
    refine (impl_isFraction.calls ka n d false _ G1.out).mono ?_
    rintro e w1_ ⟨rfl, hb⟩
    replace BKg1 := am_ (blk_below (blk_below BKg1.out (by repeat first | exact Below.refl _ _ | apply ba_ | apply bn_ | apply bd_)) hb); replace BKg2 := am_ (blk_below (blk_below BKg2.out (by repeat first | exact Below.refl _ _ | apply ba_ | apply bn_ | apply bd_)) hb); replace BKg3 := am_ (blk_below (blk_below BKg3.out (by repeat first | exact Below.refl _ _ | apply ba_ | apply bn_ | apply bd_)) hb); replace HB := am_ (below_step (by repeat first | (with_reducible first | exact HB.out | apply ba_ | apply bn_ | apply bd_) | exact HB.out) hb); clear hb
    have yg3_0 : w1_.cell? ⟨g3, 0, none⟩ = some (.int .i64 0) := (blk_cell BKg3.out 0).trans rfl; have fg3_0 := blk_frozen BKg3.out 0; have yg3_1 : w1_.cell? ⟨g3, 1, none⟩ = some (.int .i64 0) := (blk_cell BKg3.out 1).trans rfl; have fg3_1 := blk_frozen BKg3.out 1
    go_wp2
    refine bodyPost_ret (results_ct rfl _ _ g3 24 #[.int .i64 0, .int .i64 0] (0, 0) _ rfl (by (with_reducible repeat first | refine kn_ ?_ _ | refine kd_ ?_ | refine ka_ ?_ _); refine blk_put (cs := #[.int .i64 0, .int .i64 0]) ?_ 1 _ rfl; (with_reducible repeat first | refine kn_ ?_ _ | refine kd_ ?_ | refine ka_ ?_ _); refine blk_put (cs := #[.int .i64 0, .int .i64 0]) ?_ 0 _ rfl; (with_reducible repeat first | refine kn_ ?_ _ | refine kd_ ?_ | refine ka_ ?_ _); exact BKg3.out) Try.underlying24 rfl (by kernel_rfl)) rfl ?_
    exact ⟨rfl, (by repeat first | (with_reducible first | exact HB.out | apply ba_ | apply bn_ | apply bd_ | refine below_set ?_ GEg1.out | refine below_set ?_ GEg2.out | refine below_set ?_ GEg3.out) | exact HB.out)⟩
end Go.Proofs.Ytacfepaemphdgaa.O
