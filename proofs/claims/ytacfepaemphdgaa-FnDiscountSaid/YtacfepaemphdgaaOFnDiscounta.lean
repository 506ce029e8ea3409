/- Walks of our own, a part of those for the law FnDiscount: each function's contract in plain Lean. No condition beyond the bounds that each contract names. -/
import Derived.Test.YtacfepaemphdgaaPureFnDiscount
import Derived.Shelf.SlicesE.IndexFunc
import Derived.Shelf.SlLaysH
namespace Go.Proofs.Ytacfepaemphdgaa.O
open Go.RowKit Go.Proofs.YtacfepaemphdgaaW.PrintWords Go.Proofs.YtacfepaemphdgaaW.PrintLast Go.Proofs.YtacfepaemphdgaaW.PrintMore Go.Proofs.Ytacfepaemphdgaa.PL15I Go.Proofs.Ytacfepaemphdgaa.EvKit Go.Proofs.Ytacfepaemphdgaa.Pure
set_option linter.unusedVariables false
set_option linter.unusedSimpArgs false
attribute [local go_sem] max2_int min2_int max_two min_two max_three min_three max_four min_four
theorem am_ {p : Prop} (h : p) : Aside0 p := ⟨h⟩
theorem db_ {w w' : World} (h : Drawn0 w w') : Below w.heap.size w w' := Drawn0.below h
/-- A number of rounds at which a printed function answers. -/
theorem roundsOf {α : Type} {g : Nat → Option α} {r : α} (h : Ev g r) : ∃ k, g k = some r := Ev.rounds h
theorem cellsOf {w : World} {b o : Nat} {xs : List Int} (h : (Kd.int .i64).C w (some ⟨b, o, none⟩) xs.length xs) : ∀ j, j < xs.length → w.cell? ⟨b, o + j, none⟩ = some (.int .i64 xs[j]!) := by
  intro j hj
  obtain ⟨ad, e, hc⟩ := Kd.at_int h (j : Int) (by omega) (by omega)
  injection e with e
  subst e
  rw [add_at] at hc
  rw [Int.toNat_natCast] at hc
  rw [hc, rd, Int.toNat_natCast, List.getD_eq_getElem?_getD, List.getElem?_eq_getElem hj, List.getElem!_eq_getElem?_getD, List.getElem?_eq_getElem hj]
  rfl
/-- Between two numbers. -/
def Iv (a b : Nat) (k : Nat) : Prop := a ≤ k ∧ k < b
theorem R_iv {α : Type} {d : Kd α} {e base : Nat} {ok : Nat → Prop} {w : World} {v : Value} {xs : List α} (h : d.R e w base ok v xs) : d.R e w base (Iv base w.heap.size) v xs := Kd.R_mono (Kd.R_bound h) (fun _ hk => ⟨hk.2.1, hk.2.2.1⟩)
/-- Where a row of one's own that is not empty begins. -/
theorem R_head {α : Type} {d : Kd α} {e base : Nat} {ok : Nat → Prop} {w : World} {A : Option Addr} {n c : Nat} {xs : List α} (h : d.R e w base ok (.slice A n c) xs) (hp : 0 < xs.length) : ∃ b, A = some ⟨b, 0, none⟩ := by
  obtain ⟨g, cap, e1, _⟩ := Kd.R_form h hp
  injection e1 with e1
  exact ⟨g, e1⟩
theorem R_ivw {α : Type} {d : Kd α} {e base a b : Nat} {ok : Nat → Prop} {w : World} {v : Value} {xs : List α} (h : d.R e w base ok v xs) (ha : a ≤ base) (hb : b ≤ base) : d.R e w b (Iv a w.heap.size) v xs := Kd.R_lower (Kd.R_mono (Kd.R_bound h) (fun _ hk => ⟨Nat.le_trans ha hk.2.1, hk.2.2.1⟩)) hb
/-- A row whose elements hold no rows lies in its own block alone. -/
theorem R_flat {α : Type} {d : Kd α} {e base : Nat} {ok ok' : Nat → Prop} {w : World} {v : Value} {xs : List α} (hf : ∀ (w : World) (b : Nat) (p q : Nat → Prop) x cs, d.M w b p x cs → d.M w b q x cs) (h : d.R e w base ok v xs) (h0 : ∀ k, v.ownBlock = some k → ok' k) : d.R e w base ok' v xs := ⟨h0, h.2.imp_ (fun _ _ hp => hf _ _ _ _ _ _ hp)⟩
theorem flat_int (w : World) (b : Nat) (p q : Nat → Prop) (x : Int) (cs : List Value) (h : (Kd.int .i64).M w b p x cs) : (Kd.int .i64).M w b q x cs := h
theorem cellsOfD {w : World} {b o m : Nat} {xs : List Int} (h : (Kd.int .i64).C w (some ⟨b, o, none⟩) m xs) : ∀ j, j < xs.length → w.cell? ⟨b, o + j, none⟩ = some (.int .i64 (xs.getD j 0)) := by
  intro j hj
  have hl := Kd.C_len h
  obtain ⟨ad, e, hc⟩ := Kd.at_int h (j : Int) (by omega) (by omega)
  injection e with e
  subst e
  rw [add_at, Int.toNat_natCast] at hc
  exact hc
theorem R_C {α : Type} {d : Kd α} {e base : Nat} {ok : Nat → Prop} {w : World} {A : Option Addr} {n c : Nat} {xs : List α} (h : d.R e w base ok (.slice A n c) xs) : d.C w A n xs := by
  obtain ⟨rfl, _, hc⟩ := Kd.R_reads' h
  exact hc
theorem R_cap {α : Type} {d : Kd α} {e base : Nat} {ok : Nat → Prop} {w : World} {A : Option Addr} {n c : Nat} {xs : List α} (h : d.R e w base ok (.slice A n c) xs) : n ≤ c := (Kd.R_reads' h).2.1
theorem R_same {α : Type} {d : Kd α} {e base : Nat} {ok : Nat → Prop} {w w1 : World} {v : Value} {xs : List α} (h : d.R e w base ok v xs) (hg : w.grownBy w1 none) : d.R e w1 base ok v xs := Kd.R_grown h hg (fun _ _ e => by cases e)
theorem R_block {α : Type} {d : Kd α} {e base g n c : Nat} {ok : Nat → Prop} {w : World} {xs : List α} (h : d.R e w base ok (.slice (some ⟨g, 0, none⟩) n c) xs) (hp : 0 < n) : ∃ cells, w.heap[g]? = some (.cells cells e (0, 0)) := by
  obtain ⟨e1, _, _⟩ := Kd.R_reads' h
  obtain ⟨g', cap, e2, _, _, cells, h3⟩ := Kd.R_form h (by omega)
  injection e2 with e2 _ _
  injection e2 with e2
  injection e2 with e2
  subst e2
  exact ⟨cells, h3⟩
theorem ba_ {w W : World} (h : Below w.heap.size w W) (o : Obj) : Below w.heap.size w (W.alloc o) := below_alloc h o
theorem bn_ {B : Nat} {w W : World} (h : Below B w W) (n : Nat) : Below B w (W.drewN n) := pw_below_drewN h n
theorem bd_ {B : Nat} {w W : World} (h : Below B w W) : Below B w W.drew := below_drew1 h
theorem ca_ {α : Type} {d : Kd α} {w : World} {xs : List α} {A : Option Addr} {n : Nat} (h : d.C w A n xs) (o : Obj) : d.C (w.alloc o) A n xs := Kd.C_alloc h o
theorem cn_ {α : Type} {d : Kd α} {w : World} {xs : List α} {A : Option Addr} {n : Nat} (h : d.C w A n xs) (m : Nat) : d.C (w.drewN m) A n xs := Kd.C_drewN h m
theorem cd_ {α : Type} {d : Kd α} {w : World} {xs : List α} {A : Option Addr} {n : Nat} (h : d.C w A n xs) : d.C w.drew A n xs := Kd.C_drew h
theorem ra_ {α : Type} {d : Kd α} {w : World} {xs : List α} {e : TypeId} {base : Nat} {ok : Nat → Prop} {v : Value} (h : d.R e w base ok v xs) (o : Obj) : d.R e (w.alloc o) base ok v xs := Kd.R_alloc h o
theorem rn_ {α : Type} {d : Kd α} {w : World} {xs : List α} {e : TypeId} {base : Nat} {ok : Nat → Prop} {v : Value} (h : d.R e w base ok v xs) (m : Nat) : d.R e (w.drewN m) base ok v xs := Kd.R_drewN h m
theorem rd_ {α : Type} {d : Kd α} {w : World} {xs : List α} {e : TypeId} {base : Nat} {ok : Nat → Prop} {v : Value} (h : d.R e w base ok v xs) : d.R e w.drew base ok v xs := Kd.R_drew h
theorem ka_ {w : World} {g : Nat} {o : Obj} (h : w.heap[g]? = some o) (o' : Obj) : (w.alloc o').heap[g]? = some o := blk_alloc h o'
theorem kd_ {w : World} {g : Nat} {o : Obj} (h : w.heap[g]? = some o) : w.drew.heap[g]? = some o := blk_drew h
theorem kn_ {w : World} {g : Nat} {o : Obj} (h : w.heap[g]? = some o) (n : Nat) : (w.drewN n).heap[g]? = some o := blk_drewN h n
theorem kf_ {w : World} {g : Nat} {t : TypeId} {cs : Array Value} (h : w.heap[g]? = some (.cells cs t (0, 0))) {p : Addr} (hp : g ≠ p.block) (u : Value) : (w.setCell p u).heap[g]? = some (.cells cs t (0, 0)) := blk_far h hp u
set_option maxHeartbeats 8000000 in
set_option maxRecDepth 100000 in
theorem multS_c (n d n1 d1 : Int) (w : World) :
    Calls Try.prog 103 #[.agg #[.int .i64 n, .int .i64 d], .agg #[.int .i64 n1, .int .i64 d1]] w fun e w' => e = .returned (.tuple #[.agg #[.int .i64 (multA n d n1 d1).1, .int .i64 (multA n d n1 d1).2.1], .bool (multA n d n1 d1).2.2]) ∧ Below w.heap.size w w' := by
  have HB := am_ (Below.refl w.heap.size w)
  obtain ⟨ka, ha⟩ := roundsOf (specIsF_ev n d)
  obtain ⟨kb, hbb⟩ := roundsOf (specIsF_ev n1 d1)
  have g0_ := ha
  by_cases c0_ : okF n d
  · rw [decide_eq_true c0_] at g0_
    have G1 := am_ g0_
    clear g0_
    have g1_ := hbb
    by_cases c1_ : okF n1 d1
    · rw [decide_eq_true c1_] at g1_
      have G2 := am_ g1_
      clear g1_
      have hm := okF_mul c0_ c1_
      have hfin : multA n d n1 d1 = fracA (n * n1) (d * d1) := by unfold multA; rw [if_pos ⟨c0_, c1_⟩]
      rw [hfin]
      obtain ⟨P, hP⟩ : ∃ P, P = n * n1 := ⟨_, rfl⟩
      obtain ⟨Q, hQ⟩ : ∃ Q, Q = d * d1 := ⟨_, rfl⟩
      rw [← hP, ← hQ] at hm ⊢
      have hw1 : IntKind.i64.wrap (n * n1) = P := by rw [← hP]; exact IntWalk.i64_in _ (by omega)
      have hw2 : IntKind.i64.wrap (d * d1) = Q := by rw [← hQ]; exact IntWalk.i64_in _ (by omega)
      obtain ⟨FR, hFR⟩ : ∃ F, F = fracA P Q := ⟨_, rfl⟩
      have HFR := am_ hFR.symm
      rw [← hFR]
      obtain ⟨n2, d2, o2⟩ := FR
      clear hFR
      obtain ⟨k, hk⟩ := roundsOf (specReduce_ev P Q (by omega) (by omega) (by omega))
      rw [HFR.out] at hk
      have HK := am_ hk
      clear hk HFR hfin hP hQ c0_ c1_
      go_enter Try.func103, Try.ntmps103
      go_wp2_with (first
        | (((with_reducible refine gate_dst (N := 2) rfl ?_); refine box_event ?hg (N := 2) ?hd (cs := #[.int .i64 n,.int .i64 d]) (t := 24) ?hr ?_; (case hd => rfl); (case hg => rfl); (case hr => first | (go_simp; done) | (go_simp; rfl))); intro g1 hg w_g1 hbox hb; have n_ := am_ (below_step (by repeat first | (with_reducible first | exact HB.out | apply ba_ | apply bn_ | apply bd_) | exact HB.out) hb); have BKg1 := am_ hbox; have GEg1 := am_ (show w.heap.size ≤ g1 from by rw [hg]; exact below_size (by repeat first | (with_reducible first | exact HB.out | apply ba_ | apply bn_ | apply bd_) | exact HB.out)); clear HB ; have HB := n_; clear n_ hb hbox hg)
        | (((with_reducible refine gate_dst (N := 3) rfl ?_); refine box_event ?hg (N := 3) ?hd (cs := #[.int .i64 n1,.int .i64 d1]) (t := 24) ?hr ?_; (case hd => rfl); (case hg => rfl); (case hr => first | (go_simp; done) | (go_simp; rfl))); intro g2 hg w_g2 hbox hb; have n_ := am_ (below_step (by repeat first | (with_reducible first | exact HB.out | apply ba_ | apply bn_ | apply bd_ | refine below_set ?_ GEg1.out) | exact HB.out) hb); have m_g1 := am_ (blk_below (blk_below BKg1.out (by repeat first | exact Below.refl _ _ | apply ba_ | apply bn_ | apply bd_)) hb); have NEg1_g2 := am_ (show g1 ≠ g2 from by rw [hg]; exact Nat.ne_of_lt (blk_lt (blk_below BKg1.out (by repeat first | exact Below.refl _ _ | apply ba_ | apply bn_ | apply bd_)))); have NEg2_g1 := am_ (Ne.symm NEg1_g2.out); have BKg2 := am_ hbox; have GEg2 := am_ (show w.heap.size ≤ g2 from by rw [hg]; exact below_size (by repeat first | (with_reducible first | exact HB.out | apply ba_ | apply bn_ | apply bd_ | refine below_set ?_ GEg1.out) | exact HB.out)); clear HB BKg1; have HB := n_; clear n_ hb hbox hg; have BKg1 := m_g1; clear m_g1)
        | ((((with_reducible refine gate_dst (N := 4) rfl ?_); refine box_event ?hg (N := 4) ?hd (cs := #[.int .i64 0,.int .i64 0]) (t := 24) ?hr ?_; (case hd => rfl); (case hg => rfl); (case hr => first | (go_simp; done) | (go_simp; rfl))); intro g3 hg w_g3 hbox hb; have n_ := am_ (below_step (by repeat first | (with_reducible first | exact HB.out | apply ba_ | apply bn_ | apply bd_ | refine below_set ?_ GEg1.out | refine below_set ?_ GEg2.out) | exact HB.out) hb); have m_g1 := am_ (blk_below (blk_below BKg1.out (by repeat first | exact Below.refl _ _ | apply ba_ | apply bn_ | apply bd_)) hb); have NEg1_g3 := am_ (show g1 ≠ g3 from by rw [hg]; exact Nat.ne_of_lt (blk_lt (blk_below BKg1.out (by repeat first | exact Below.refl _ _ | apply ba_ | apply bn_ | apply bd_)))); have NEg3_g1 := am_ (Ne.symm NEg1_g3.out); have m_g2 := am_ (blk_below (blk_below BKg2.out (by repeat first | exact Below.refl _ _ | apply ba_ | apply bn_ | apply bd_)) hb); have NEg2_g3 := am_ (show g2 ≠ g3 from by rw [hg]; exact Nat.ne_of_lt (blk_lt (blk_below BKg2.out (by repeat first | exact Below.refl _ _ | apply ba_ | apply bn_ | apply bd_)))); have NEg3_g2 := am_ (Ne.symm NEg2_g3.out); have BKg3 := am_ hbox; have GEg3 := am_ (show w.heap.size ≤ g3 from by rw [hg]; exact below_size (by repeat first | (with_reducible first | exact HB.out | apply ba_ | apply bn_ | apply bd_ | refine below_set ?_ GEg1.out | refine below_set ?_ GEg2.out) | exact HB.out)); clear HB BKg1 BKg2; have HB := n_; clear n_ hb hbox hg; have BKg1 := m_g1; clear m_g1; have BKg2 := m_g2; clear m_g2); have yg1_0 : w_g3.cell? ⟨g1, 0, none⟩ = some (.int .i64 n) := (blk_cell BKg1.out 0).trans rfl; have fg1_0 := blk_frozen BKg1.out 0; have yg1_1 : w_g3.cell? ⟨g1, 1, none⟩ = some (.int .i64 d) := (blk_cell BKg1.out 1).trans rfl; have fg1_1 := blk_frozen BKg1.out 1)
        )
      clear yg1_0 fg1_0 yg1_1 fg1_1
      refine (spec_l2Fraction.calls ka n d true _ G1.out).mono ?_
      rintro e w1_ ⟨rfl, hb⟩
      replace BKg1 := am_ (blk_below (blk_below BKg1.out (by repeat first | exact Below.refl _ _ | apply ba_ | apply bn_ | apply bd_)) hb); replace BKg2 := am_ (blk_below (blk_below BKg2.out (by repeat first | exact Below.refl _ _ | apply ba_ | apply bn_ | apply bd_)) hb); replace BKg3 := am_ (blk_below (blk_below BKg3.out (by repeat first | exact Below.refl _ _ | apply ba_ | apply bn_ | apply bd_)) hb); replace HB := am_ (below_step (by repeat first | (with_reducible first | exact HB.out | apply ba_ | apply bn_ | apply bd_) | exact HB.out) hb); clear hb
      have yg2_0 : w1_.cell? ⟨g2, 0, none⟩ = some (.int .i64 n1) := (blk_cell BKg2.out 0).trans rfl; have fg2_0 := blk_frozen BKg2.out 0; have yg2_1 : w1_.cell? ⟨g2, 1, none⟩ = some (.int .i64 d1) := (blk_cell BKg2.out 1).trans rfl; have fg2_1 := blk_frozen BKg2.out 1
      go_wp2_with fail
      clear yg2_0 fg2_0 yg2_1 fg2_1
      refine (spec_l2Fraction.calls kb n1 d1 true _ G2.out).mono ?_
      rintro e w2_ ⟨rfl, hb⟩
      replace BKg1 := am_ (blk_below (blk_below BKg1.out (by repeat first | exact Below.refl _ _ | apply ba_ | apply bn_ | apply bd_)) hb); replace BKg2 := am_ (blk_below (blk_below BKg2.out (by repeat first | exact Below.refl _ _ | apply ba_ | apply bn_ | apply bd_)) hb); replace BKg3 := am_ (blk_below (blk_below BKg3.out (by repeat first | exact Below.refl _ _ | apply ba_ | apply bn_ | apply bd_)) hb); replace HB := am_ (below_step (by repeat first | (with_reducible first | exact HB.out | apply ba_ | apply bn_ | apply bd_) | exact HB.out) hb); clear hb
      have yg1_0 : w2_.cell? ⟨g1, 0, none⟩ = some (.int .i64 n) := (blk_cell BKg1.out 0).trans rfl; have fg1_0 := blk_frozen BKg1.out 0; have yg1_1 : w2_.cell? ⟨g1, 1, none⟩ = some (.int .i64 d) := (blk_cell BKg1.out 1).trans rfl; have fg1_1 := blk_frozen BKg1.out 1
      have yg2_0 : w2_.cell? ⟨g2, 0, none⟩ = some (.int .i64 n1) := (blk_cell BKg2.out 0).trans rfl; have fg2_0 := blk_frozen BKg2.out 0; have yg2_1 : w2_.cell? ⟨g2, 1, none⟩ = some (.int .i64 d1) := (blk_cell BKg2.out 1).trans rfl; have fg2_1 := blk_frozen BKg2.out 1
      go_wp2_with fail
      clear yg1_0 fg1_0 yg1_1 fg1_1
      clear yg2_0 fg2_0 yg2_1 fg2_1
      refine (spec_l2Reduce.calls k P Q n2 d2 o2 _ HK.out).mono ?_
      rintro e w3_ ⟨rfl, hb⟩
      replace BKg1 := am_ (blk_below (blk_below BKg1.out (by repeat first | exact Below.refl _ _ | apply ba_ | apply bn_ | apply bd_)) hb); replace BKg2 := am_ (blk_below (blk_below BKg2.out (by repeat first | exact Below.refl _ _ | apply ba_ | apply bn_ | apply bd_)) hb); replace BKg3 := am_ (blk_below (blk_below BKg3.out (by repeat first | exact Below.refl _ _ | apply ba_ | apply bn_ | apply bd_)) hb); replace HB := am_ (below_step (by repeat first | (with_reducible first | exact HB.out | apply ba_ | apply bn_ | apply bd_) | exact HB.out) hb); clear hb
      have yg3_0 : w3_.cell? ⟨g3, 0, none⟩ = some (.int .i64 0) := (blk_cell BKg3.out 0).trans rfl; have fg3_0 := blk_frozen BKg3.out 0; have yg3_1 : w3_.cell? ⟨g3, 1, none⟩ = some (.int .i64 0) := (blk_cell BKg3.out 1).trans rfl; have fg3_1 := blk_frozen BKg3.out 1
      go_wp2
      refine bodyPost_ret (results_ct rfl _ _ g3 24 #[.int .i64 n2, .int .i64 d2] (0, 0) _ rfl (by (with_reducible repeat first | refine kn_ ?_ _ | refine kd_ ?_ | refine ka_ ?_ _); refine blk_put (cs := #[.int .i64 n2, .int .i64 0]) ?_ 1 _ rfl; (with_reducible repeat first | refine kn_ ?_ _ | refine kd_ ?_ | refine ka_ ?_ _); refine blk_put (cs := #[.int .i64 0, .int .i64 0]) ?_ 0 _ rfl; (with_reducible repeat first | refine kn_ ?_ _ | refine kd_ ?_ | refine ka_ ?_ _); exact BKg3.out) Try.underlying24 rfl (by kernel_rfl)) rfl ?_
      exact ⟨rfl, (by repeat first | (with_reducible first | exact HB.out | apply ba_ | apply bn_ | apply bd_ | refine below_set ?_ GEg1.out | refine below_set ?_ GEg2.out | refine below_set ?_ GEg3.out) | exact HB.out)⟩
    · rw [decide_eq_false c1_] at g1_
      have G2 := am_ g1_
      clear g1_
      have hfin : multA n d n1 d1 = (0, 0, false) := by unfold multA; rw [if_neg (fun v => c1_ v.2)]
      rw [hfin]
      clear hfin
      go_enter Try.func103, Try.ntmps103
      go_wp2_with (first
        | (((with_reducible refine gate_dst (N := 2) rfl ?_); refine box_event ?hg (N := 2) ?hd (cs := #[.int .i64 n,.int .i64 d]) (t := 24) ?hr ?_; (case hd => rfl); (case hg => rfl); (case hr => first | (go_simp; done) | (go_simp; rfl))); intro g1 hg w_g1 hbox hb; have n_ := am_ (below_step (by repeat first | (with_reducible first | exact HB.out | apply ba_ | apply bn_ | apply bd_) | exact HB.out) hb); have BKg1 := am_ hbox; have GEg1 := am_ (show w.heap.size ≤ g1 from by rw [hg]; exact below_size (by repeat first | (with_reducible first | exact HB.out | apply ba_ | apply bn_ | apply bd_) | exact HB.out)); clear HB ; have HB := n_; clear n_ hb hbox hg)
        | (((with_reducible refine gate_dst (N := 3) rfl ?_); refine box_event ?hg (N := 3) ?hd (cs := #[.int .i64 n1,.int .i64 d1]) (t := 24) ?hr ?_; (case hd => rfl); (case hg => rfl); (case hr => first | (go_simp; done) | (go_simp; rfl))); intro g2 hg w_g2 hbox hb; have n_ := am_ (below_step (by repeat first | (with_reducible first | exact HB.out | apply ba_ | apply bn_ | apply bd_ | refine below_set ?_ GEg1.out) | exact HB.out) hb); have m_g1 := am_ (blk_below (blk_below BKg1.out (by repeat first | exact Below.refl _ _ | apply ba_ | apply bn_ | apply bd_)) hb); have NEg1_g2 := am_ (show g1 ≠ g2 from by rw [hg]; exact Nat.ne_of_lt (blk_lt (blk_below BKg1.out (by repeat first | exact Below.refl _ _ | apply ba_ | apply bn_ | apply bd_)))); have NEg2_g1 := am_ (Ne.symm NEg1_g2.out); have BKg2 := am_ hbox; have GEg2 := am_ (show w.heap.size ≤ g2 from by rw [hg]; exact below_size (by repeat first | (with_reducible first | exact HB.out | apply ba_ | apply bn_ | apply bd_ | refine below_set ?_ GEg1.out) | exact HB.out)); clear HB BKg1; have HB := n_; clear n_ hb hbox hg; have BKg1 := m_g1; clear m_g1)
        | ((((with_reducible refine gate_dst (N := 4) rfl ?_); refine box_event ?hg (N := 4) ?hd (cs := #[.int .i64 0,.int .i64 0]) (t := 24) ?hr ?_; (case hd => rfl); (case hg => rfl); (case hr => first | (go_simp; done) | (go_simp; rfl))); intro g3 hg w_g3 hbox hb; have n_ := am_ (below_step (by repeat first | (with_reducible first | exact HB.out | apply ba_ | apply bn_ | apply bd_ | refine below_set ?_ GEg1.out | refine below_set ?_ GEg2.out) | exact HB.out) hb); have m_g1 := am_ (blk_below (blk_below BKg1.out (by repeat first | exact Below.refl _ _ | apply ba_ | apply bn_ | apply bd_)) hb); have NEg1_g3 := am_ (show g1 ≠ g3 from by rw [hg]; exact Nat.ne_of_lt (blk_lt (blk_below BKg1.out (by repeat first | exact Below.refl _ _ | apply ba_ | apply bn_ | apply bd_)))); have NEg3_g1 := am_ (Ne.symm NEg1_g3.out); have m_g2 := am_ (blk_below (blk_below BKg2.out (by repeat first | exact Below.refl _ _ | apply ba_ | apply bn_ | apply bd_)) hb); have NEg2_g3 := am_ (show g2 ≠ g3 from by rw [hg]; exact Nat.ne_of_lt (blk_lt (blk_below BKg2.out (by repeat first | exact Below.refl _ _ | apply ba_ | apply bn_ | apply bd_)))); have NEg3_g2 := am_ (Ne.symm NEg2_g3.out); have BKg3 := am_ hbox; have GEg3 := am_ (show w.heap.size ≤ g3 from by rw [hg]; exact below_size (by repeat first | (with_reducible first | exact HB.out | apply ba_ | apply bn_ | apply bd_ | refine below_set ?_ GEg1.out | refine below_set ?_ GEg2.out) | exact HB.out)); clear HB BKg1 BKg2; have HB := n_; clear n_ hb hbox hg; have BKg1 := m_g1; clear m_g1; have BKg2 := m_g2; clear m_g2); have yg1_0 : w_g3.cell? ⟨g1, 0, none⟩ = some (.int .i64 n) := (blk_cell BKg1.out 0).trans rfl; have fg1_0 := blk_frozen BKg1.out 0; have yg1_1 : w_g3.cell? ⟨g1, 1, none⟩ = some (.int .i64 d) := (blk_cell BKg1.out 1).trans rfl; have fg1_1 := blk_frozen BKg1.out 1)
        )
      clear yg1_0 fg1_0 yg1_1 fg1_1
      refine (spec_l2Fraction.calls ka n d true _ G1.out).mono ?_
      rintro e w1_ ⟨rfl, hb⟩
      replace BKg1 := am_ (blk_below (blk_below BKg1.out (by repeat first | exact Below.refl _ _ | apply ba_ | apply bn_ | apply bd_)) hb); replace BKg2 := am_ (blk_below (blk_below BKg2.out (by repeat first | exact Below.refl _ _ | apply ba_ | apply bn_ | apply bd_)) hb); replace BKg3 := am_ (blk_below (blk_below BKg3.out (by repeat first | exact Below.refl _ _ | apply ba_ | apply bn_ | apply bd_)) hb); replace HB := am_ (below_step (by repeat first | (with_reducible first | exact HB.out | apply ba_ | apply bn_ | apply bd_) | exact HB.out) hb); clear hb
      have yg2_0 : w1_.cell? ⟨g2, 0, none⟩ = some (.int .i64 n1) := (blk_cell BKg2.out 0).trans rfl; have fg2_0 := blk_frozen BKg2.out 0; have yg2_1 : w1_.cell? ⟨g2, 1, none⟩ = some (.int .i64 d1) := (blk_cell BKg2.out 1).trans rfl; have fg2_1 := blk_frozen BKg2.out 1
      go_wp2_with fail
      clear yg2_0 fg2_0 yg2_1 fg2_1
      refine (spec_l2Fraction.calls kb n1 d1 false _ G2.out).mono ?_
      rintro e w2_ ⟨rfl, hb⟩
      replace BKg1 := am_ (blk_below (blk_below BKg1.out (by repeat first | exact Below.refl _ _ | apply ba_ | apply bn_ | apply bd_)) hb); replace BKg2 := am_ (blk_below (blk_below BKg2.out (by repeat first | exact Below.refl _ _ | apply ba_ | apply bn_ | apply bd_)) hb); replace BKg3 := am_ (blk_below (blk_below BKg3.out (by repeat first | exact Below.refl _ _ | apply ba_ | apply bn_ | apply bd_)) hb); replace HB := am_ (below_step (by repeat first | (with_reducible first | exact HB.out | apply ba_ | apply bn_ | apply bd_) | exact HB.out) hb); clear hb
      have yg3_0 : w2_.cell? ⟨g3, 0, none⟩ = some (.int .i64 0) := (blk_cell BKg3.out 0).trans rfl; have fg3_0 := blk_frozen BKg3.out 0; have yg3_1 : w2_.cell? ⟨g3, 1, none⟩ = some (.int .i64 0) := (blk_cell BKg3.out 1).trans rfl; have fg3_1 := blk_frozen BKg3.out 1
      go_wp2
      refine bodyPost_ret (results_ct rfl _ _ g3 24 #[.int .i64 0, .int .i64 0] (0, 0) _ rfl (by (with_reducible repeat first | refine kn_ ?_ _ | refine kd_ ?_ | refine ka_ ?_ _); refine blk_put (cs := #[.int .i64 0, .int .i64 0]) ?_ 1 _ rfl; (with_reducible repeat first | refine kn_ ?_ _ | refine kd_ ?_ | refine ka_ ?_ _); refine blk_put (cs := #[.int .i64 0, .int .i64 0]) ?_ 0 _ rfl; (with_reducible repeat first | refine kn_ ?_ _ | refine kd_ ?_ | refine ka_ ?_ _); exact BKg3.out) Try.underlying24 rfl (by kernel_rfl)) rfl ?_
      exact ⟨rfl, (by repeat first | (with_reducible first | exact HB.out | apply ba_ | apply bn_ | apply bd_ | refine below_set ?_ GEg1.out | refine below_set ?_ GEg2.out | refine below_set ?_ GEg3.out) | exact HB.out)⟩
  · rw [decide_eq_false c0_] at g0_
    have G1 := am_ g0_
    clear g0_
    have hfin : multA n d n1 d1 = (0, 0, false) := by unfold multA; rw [if_neg (fun v => c0_ v.1)]
    rw [hfin]
    clear hfin
    go_enter Try.func103, Try.ntmps103
    go_wp2_with (first
      | (((with_reducible refine gate_dst (N := 2) rfl ?_); refine box_event ?hg (N := 2) ?hd (cs := #[.int .i64 n,.int .i64 d]) (t := 24) ?hr ?_; (case hd => rfl); (case hg => rfl); (case hr => first | (go_simp; done) | (go_simp; rfl))); intro g1 hg w_g1 hbox hb; have n_ := am_ (below_step (by repeat first | (with_reducible first | exact HB.out | apply ba_ | apply bn_ | apply bd_) | exact HB.out) hb); have BKg1 := am_ hbox; have GEg1 := am_ (show w.heap.size ≤ g1 from by rw [hg]; exact below_size (by repeat first | (with_reducible first | exact HB.out | apply ba_ | apply bn_ | apply bd_) | exact HB.out)); clear HB ; have HB := n_; clear n_ hb hbox hg)
      | (((with_reducible refine gate_dst (N := 3) rfl ?_); refine box_event ?hg (N := 3) ?hd (cs := #[.int .i64 n1,.int .i64 d1]) (t := 24) ?hr ?_; (case hd => rfl); (case hg => rfl); (case hr => first | (go_simp; done) | (go_simp; rfl))); intro g2 hg w_g2 hbox hb; have n_ := am_ (below_step (by repeat first | (with_reducible first | exact HB.out | apply ba_ | apply bn_ | apply bd_ | refine below_set ?_ GEg1.out) | exact HB.out) hb); have m_g1 := am_ (blk_below (blk_below BKg1.out (by repeat first | exact Below.refl _ _ | apply ba_ | apply bn_ | apply bd_)) hb); have NEg1_g2 := am_ (show g1 ≠ g2 from by rw [hg]; exact Nat.ne_of_lt (blk_lt (blk_below BKg1.out (by repeat first | exact Below.refl _ _ | apply ba_ | apply bn_ | apply bd_)))); have NEg2_g1 := am_ (Ne.symm NEg1_g2.out); have BKg2 := am_ hbox; have GEg2 := am_ (show w.heap.size ≤ g2 from by rw [hg]; exact below_size (by repeat first | (with_reducible first | exact HB.out | apply ba_ | apply bn_ | apply bd_ | refine below_set ?_ GEg1.out) | exact HB.out)); clear HB BKg1; have HB := n_; clear n_ hb hbox hg; have BKg1 := m_g1; clear m_g1)
      | ((((with_reducible refine gate_dst (N := 4) rfl ?_); refine box_event ?hg (N := 4) ?hd (cs := #[.int .i64 0,.int .i64 0]) (t := 24) ?hr ?_; (case hd => rfl); (case hg => rfl); (case hr => first | (go_simp; done) | (go_simp; rfl))); intro g3 hg w_g3 hbox hb; have n_ := am_ (below_step (by repeat first | (with_reducible first | exact HB.out | apply ba_ | apply bn_ | apply bd_ | refine below_set ?_ GEg1.out | refine below_set ?_ GEg2.out) | exact HB.out) hb); have m_g1 := am_ (blk_below (blk_below BKg1.out (by repeat first | exact Below.refl _ _ | apply ba_ | apply bn_ | apply bd_)) hb); have NEg1_g3 := am_ (show g1 ≠ g3 from by rw [hg]; exact Nat.ne_of_lt (blk_lt (blk_below BKg1.out (by repeat first | exact Below.refl _ _ | apply ba_ | apply bn_ | apply bd_)))); have NEg3_g1 := am_ (Ne.symm NEg1_g3.out); have m_g2 := am_ (blk_below (blk_below BKg2.out (by repeat first | exact Below.refl _ _ | apply ba_ | apply bn_ | apply bd_)) hb); have NEg2_g3 := am_ (show g2 ≠ g3 from by rw [hg]; exact Nat.ne_of_lt (blk_lt (blk_below BKg2.out (by repeat first | exact Below.refl _ _ | apply ba_ | apply bn_ | apply bd_)))); have NEg3_g2 := am_ (Ne.symm NEg2_g3.out); have BKg3 := am_ hbox; have GEg3 := am_ (show w.heap.size ≤ g3 from by rw [hg]; exact below_size (by repeat first | (with_reducible first | exact HB.out | apply ba_ | apply bn_ | apply bd_ | refine below_set ?_ GEg1.out | refine below_set ?_ GEg2.out) | exact HB.out)); clear HB BKg1 BKg2; have HB := n_; clear n_ hb hbox hg; have BKg1 := m_g1; clear m_g1; have BKg2 := m_g2; clear m_g2); have yg1_0 : w_g3.cell? ⟨g1, 0, none⟩ = some (.int .i64 n) := (blk_cell BKg1.out 0).trans rfl; have fg1_0 := blk_frozen BKg1.out 0; have yg1_1 : w_g3.cell? ⟨g1, 1, none⟩ = some (.int .i64 d) := (blk_cell BKg1.out 1).trans rfl; have fg1_1 := blk_frozen BKg1.out 1)
      )
    clear yg1_0 fg1_0 yg1_1 fg1_1
    refine (spec_l2Fraction.calls ka n d false _ G1.out).mono ?_
    rintro e w1_ ⟨rfl, hb⟩
    replace BKg1 := am_ (blk_below (blk_below BKg1.out (by repeat first | exact Below.refl _ _ | apply ba_ | apply bn_ | apply bd_)) hb); replace BKg2 := am_ (blk_below (blk_below BKg2.out (by repeat first | exact Below.refl _ _ | apply ba_ | apply bn_ | apply bd_)) hb); replace BKg3 := am_ (blk_below (blk_below BKg3.out (by repeat first | exact Below.refl _ _ | apply ba_ | apply bn_ | apply bd_)) hb); replace HB := am_ (below_step (by repeat first | (with_reducible first | exact HB.out | apply ba_ | apply bn_ | apply bd_) | exact HB.out) hb); clear hb
    have yg3_0 : w1_.cell? ⟨g3, 0, none⟩ = some (.int .i64 0) := (blk_cell BKg3.out 0).trans rfl; have fg3_0 := blk_frozen BKg3.out 0; have yg3_1 : w1_.cell? ⟨g3, 1, none⟩ = some (.int .i64 0) := (blk_cell BKg3.out 1).trans rfl; have fg3_1 := blk_frozen BKg3.out 1
    go_wp2
    refine bodyPost_ret (results_ct rfl _ _ g3 24 #[.int .i64 0, .int .i64 0] (0, 0) _ rfl (by (with_reducible repeat first | refine kn_ ?_ _ | refine kd_ ?_ | refine ka_ ?_ _); refine blk_put (cs := #[.int .i64 0, .int .i64 0]) ?_ 1 _ rfl; (with_reducible repeat first | refine kn_ ?_ _ | refine kd_ ?_ | refine ka_ ?_ _); refine blk_put (cs := #[.int .i64 0, .int .i64 0]) ?_ 0 _ rfl; (with_reducible repeat first | refine kn_ ?_ _ | refine kd_ ?_ | refine ka_ ?_ _); exact BKg3.out) Try.underlying24 rfl (by kernel_rfl)) rfl ?_
    exact ⟨rfl, (by repeat first | (with_reducible first | exact HB.out | apply ba_ | apply bn_ | apply bd_ | refine below_set ?_ GEg1.out | refine below_set ?_ GEg2.out | refine below_set ?_ GEg3.out) | exact HB.out)⟩
set_option maxHeartbeats 8000000 in
set_option maxRecDepth 100000 in
theorem thirtyS_c (a b : Int) (ha : 0 ≤ a ∧ a ≤ 36524) (hb : 0 ≤ b ∧ b ≤ 36524) (w : World) :
    Calls Try.prog 133 #[.int .i64 a, .int .i64 b] w fun e w' => e = .returned (.int .i64 (thirtyA a b)) ∧ Below w.heap.size w w' := by
  have HB := am_ (Below.refl w.heap.size w)
  obtain ⟨k1, h1⟩ := roundsOf (specDateC_ev a ha)
  obtain ⟨k2, h2⟩ := roundsOf (specDateC_ev b hb)
  obtain ⟨y, m, d, y', m', d', n, n', e1, e2, e3, e4, e5, b1, b2, b3, b4, b5, b6, b7, b8⟩ := thirty_parts ha hb
  rw [e1] at h1
  rw [e2] at h2
  rw [e5]
  have H1 := am_ h1
  have H2 := am_ h2
  have H3 := am_ (show spec_l1Least.f d 30 = some n from by rw [l1Least_eq, e3])
  have H4 := am_ (show spec_l1Least.f d' 30 = some n' from by rw [l1Least_eq, e4])
  clear h1 h2 e1 e2 e3 e4 e5 ha hb
  go_enter Try.func133, Try.ntmps133
  go_wp2_with fail
  refine (spec_l3Date.calls k1 a y m d _ H1.out).mono ?_
  rintro e w1 ⟨rfl, hb⟩
  replace HB := am_ (below_step (by repeat first | (with_reducible first | exact HB.out | apply ba_ | apply bn_ | apply bd_) | exact HB.out) hb); clear hb
  go_wp2_with fail
  refine (spec_l3Date.calls k2 b y' m' d' _ H2.out).mono ?_
  rintro e w2 ⟨rfl, hb⟩
  replace HB := am_ (below_step (by repeat first | (with_reducible first | exact HB.out | apply ba_ | apply bn_ | apply bd_) | exact HB.out) hb); clear hb
  go_upto_region 2 with (first
    | (((with_reducible refine gate_dst (N := 5) rfl ?_); refine box_event ?hg (N := 5) ?hd (cs := #[.int .i64 0, .int .i64 0, .int .i64 0]) (t := 125) ?hr ?_; (case hd => rfl); (case hg => rfl); (case hr => first | (go_simp; done) | (go_simp; rfl))); intro g1 hg w_g1 hbox hb; have n_ := am_ (below_step (by repeat first | (with_reducible first | exact HB.out | apply ba_ | apply bn_ | apply bd_) | exact HB.out) hb); have BKg1 := am_ hbox; have GEg1 := am_ (show w.heap.size ≤ g1 from by rw [hg]; exact below_size (by repeat first | (with_reducible first | exact HB.out | apply ba_ | apply bn_ | apply bd_) | exact HB.out)); clear HB ; have HB := n_; clear n_ hb hbox hg)
    | ((((with_reducible refine gate_dst (N := 6) rfl ?_); refine box_event ?hg (N := 6) ?hd (cs := #[.int .i64 0, .int .i64 0, .int .i64 0]) (t := 125) ?hr ?_; (case hd => rfl); (case hg => rfl); (case hr => first | (go_simp; done) | (go_simp; rfl))); intro g2 hg w_g2 hbox hb; have n_ := am_ (below_step (by repeat first | (with_reducible first | exact HB.out | apply ba_ | apply bn_ | apply bd_ | refine below_set ?_ GEg1.out) | exact HB.out) hb); have m_g1 := am_ (blk_below (blk_below BKg1.out (by repeat first | exact Below.refl _ _ | apply ba_ | apply bn_ | apply bd_)) hb); have NEg1_g2 := am_ (show g1 ≠ g2 from by rw [hg]; exact Nat.ne_of_lt (blk_lt (blk_below BKg1.out (by repeat first | exact Below.refl _ _ | apply ba_ | apply bn_ | apply bd_)))); have NEg2_g1 := am_ (Ne.symm NEg1_g2.out); have BKg2 := am_ hbox; have GEg2 := am_ (show w.heap.size ≤ g2 from by rw [hg]; exact below_size (by repeat first | (with_reducible first | exact HB.out | apply ba_ | apply bn_ | apply bd_ | refine below_set ?_ GEg1.out) | exact HB.out)); clear HB BKg1; have HB := n_; clear n_ hb hbox hg; have BKg1 := m_g1; clear m_g1); have yg1_0 : w_g2.cell? ⟨g1, 0, none⟩ = some (.int .i64 0) := (blk_cell BKg1.out 0).trans rfl; have fg1_0 := blk_frozen BKg1.out 0; have yg1_1 : w_g2.cell? ⟨g1, 1, none⟩ = some (.int .i64 0) := (blk_cell BKg1.out 1).trans rfl; have fg1_1 := blk_frozen BKg1.out 1; have yg1_2 : w_g2.cell? ⟨g1, 2, none⟩ = some (.int .i64 0) := (blk_cell BKg1.out 2).trans rfl; have fg1_2 := blk_frozen BKg1.out 2; have yg2_0 : w_g2.cell? ⟨g2, 0, none⟩ = some (.int .i64 0) := (blk_cell BKg2.out 0).trans rfl; have fg2_0 := blk_frozen BKg2.out 0; have yg2_1 : w_g2.cell? ⟨g2, 1, none⟩ = some (.int .i64 0) := (blk_cell BKg2.out 1).trans rfl; have fg2_1 := blk_frozen BKg2.out 1; have yg2_2 : w_g2.cell? ⟨g2, 2, none⟩ = some (.int .i64 0) := (blk_cell BKg2.out 2).trans rfl; have fg2_2 := blk_frozen BKg2.out 2; have hn1 := NEg1_g2.out; have hn2 := NEg2_g1.out))
  go_quiet ((go_at_call 75; first | exact Calls.quiet_of ((spec_l1Least.calls d 30 n _ H3.out).mono fun e w' ⟨he, ⟨n, hw⟩⟩ => ⟨he, n, hw⟩) | exact Calls.quiet_of ((spec_l1Least.calls d' 30 n' _ H4.out).mono fun e w' ⟨he, ⟨n, hw⟩⟩ => ⟨he, n, hw⟩)))
  go_wp2
  go_ret
  exact ⟨rfl, (by repeat first | (with_reducible first | exact HB.out | apply ba_ | apply bn_ | apply bd_ | refine below_set ?_ GEg1.out | refine below_set ?_ GEg2.out) | exact HB.out)⟩
set_option maxRecDepth 100000 in
theorem fldDate0 (x0_ x1_ x2_ : Value) (W_ : World) : (Instr.field 125 (.agg #[x0_, x1_, x2_]) 0).run Try.prog W_ = .ok x0_ W_ := by first | rfl | kernel_rfl
set_option maxHeartbeats 8000000 in
set_option maxRecDepth 100000 in
theorem yearsS_c (a0 b : Int) (ha : 0 ≤ a0 ∧ a0 ≤ b) (hb : b ≤ 36524) (w : World) :
    Calls Try.prog 134 #[.int .i64 a0, .int .i64 b] w fun e w' => (∃ l o, e = .returned (.tuple #[.int .i64 l, .int .i64 o]) ∧ 365 * l + 366 * o = numA a0 (b - a0).toNat ∧ 0 ≤ l ∧ 0 ≤ o ∧ l + o ≤ 40000) ∧ Below w.heap.size w w' := by
  have HB := am_ (Below.refl w.heap.size w)
  obtain ⟨NUM, hN⟩ : ∃ N, N = numA a0 (b - a0).toNat := ⟨_, rfl⟩
  rw [← hN]
  have HN := am_ (show 0 ≤ a0 ∧ a0 ≤ b ∧ (0 : Int) ≤ 0 ∧ (0 : Int) ≤ 0 ∧ 0 + 0 + (b - a0) ≤ 40000 ∧ 365 * 0 + 366 * 0 + numA a0 (b - a0).toNat = NUM from ⟨ha.1, ha.2, by omega, by omega, by omega, by rw [hN]; omega⟩)
  have hfld := fldDate0
  clear hN ha
  go_enter Try.func134, Try.ntmps134
  go_wp2
  go_loopw [0, 6, 7] (fun v0 v6 v7 wr => ∃ a l o : Int, v0 = .int .i64 a ∧ v6 = .int .i64 l ∧ v7 = .int .i64 o ∧ Aside0 (0 ≤ a ∧ a ≤ b ∧ 0 ≤ l ∧ 0 ≤ o ∧ l + o + (b - a) ≤ 40000 ∧ 365 * l + 366 * o + numA a (b - a).toNat = NUM) ∧ Aside0 (Below w.heap.size w wr)) (fun v0 _ _ _ => (b - intOf v0).toNat)
  case atStart => exact ⟨a0, 0, 0, rfl, rfl, rfl, HN, HB⟩
  case round =>
    clear HN HB
    obtain ⟨a, l, o, rfl, rfl, rfl, HI, HB⟩ := hrel
    obtain ⟨i1, i2, i3, i4, i5, i6⟩ := HI.out
    by_cases hab : a < b
    · have cb : decide (a < b) = true := decide_eq_true hab
      obtain ⟨Y, M, D, t, hdt, hY, hdb, he, ht, hat, htb, hnum⟩ := years_step i1 hb hab
      obtain ⟨k1, h1⟩ := roundsOf (specDateC_ev a (by omega))
      rw [hdt] at h1
      obtain ⟨k2, h2⟩ := roundsOf (specDay_ev Y 12 31 (by omega) (by omega) (by omega))
      rw [he] at h2
      obtain ⟨N1, hN1⟩ : ∃ N, N = dbyA (Y + 1) := ⟨_, rfl⟩
      rw [← hN1] at h2 hdb ht
      have h3 := l1Least_eq b N1
      rw [← ht] at h3
      have H1 := am_ h1
      have H2 := am_ h2
      have H3 := am_ h3
      have HNUM := am_ hnum
      have HI6 := am_ i6
      have hm4 : Int.tmod Y 4 = Y % 4 := Int.tmod_eq_emod_of_nonneg (by omega)
      clear h1 h2 h3 hnum hdt he ht hN1 i6
      go_wp2_with fail
      refine (spec_l3Date.calls k1 a Y M D _ H1.out).mono ?_
      rintro e w1 ⟨rfl, hb⟩
      replace HB := am_ (below_step (by repeat first | (with_reducible first | exact HB.out | apply ba_ | apply bn_ | apply bd_) | exact HB.out) hb); clear hb
      go_wp2_with fail
      refine (spec_l3Day.calls k2 Y 12 31 _ _ H2.out).mono ?_
      rintro e w2 ⟨rfl, hb⟩
      replace HB := am_ (below_step (by repeat first | (with_reducible first | exact HB.out | apply ba_ | apply bn_ | apply bd_) | exact HB.out) hb); clear hb
      go_wp2_with fail
      refine (spec_l1Least.calls b N1 t _ H3.out).mono ?_
      rintro e w3 ⟨rfl, hb0⟩
      have hb := db_ hb0
      replace HB := am_ (below_step (by repeat first | (with_reducible first | exact HB.out | apply ba_ | apply bn_ | apply bd_) | exact HB.out) hb); clear hb
      clear hb0
      by_cases c4 : Y % 4 = 0
      · have hc4 : (Y % 4 == 0) = true := by rw [beq_iff_eq]; exact c4
        have HS := am_ (show 0 ≤ t ∧ t ≤ b ∧ 0 ≤ l + t - a ∧ 0 ≤ o ∧ l + t - a + o + (b - t) ≤ 40000 ∧ 365 * (l + t - a) + 366 * o + numA t (b - t).toNat = NUM from ⟨by omega, htb, by omega, i4, by omega, by have := HI6.out; have hn := HNUM.out; rw [if_pos c4] at hn; omega⟩)
        clear c4
        go_wp2
        go_roundw
        case rel => exact ⟨t, l + t - a, o, by go_num, by go_num, by go_num, HS, ⟨(by repeat first | (with_reducible first | exact HB.out | apply ba_ | apply bn_ | apply bd_) | exact HB.out)⟩⟩
        case measure => simp [intOf]; omega
      · have hc4 : (Y % 4 == 0) = false := by rw [beq_eq_false_iff_ne]; exact c4
        have HS := am_ (show 0 ≤ t ∧ t ≤ b ∧ 0 ≤ l ∧ 0 ≤ o + t - a ∧ l + (o + t - a) + (b - t) ≤ 40000 ∧ 365 * l + 366 * (o + t - a) + numA t (b - t).toNat = NUM from ⟨by omega, htb, i3, by omega, by omega, by have := HI6.out; have hn := HNUM.out; rw [if_neg c4] at hn; omega⟩)
        clear c4
        go_wp2
        go_roundw
        case rel => exact ⟨t, l, o + t - a, by go_num, by go_num, by go_num, HS, ⟨(by repeat first | (with_reducible first | exact HB.out | apply ba_ | apply bn_ | apply bd_) | exact HB.out)⟩⟩
        case measure => simp [intOf]; omega
    · have cb : decide (a < b) = false := decide_eq_false hab
      have HS := am_ (show 365 * l + 366 * o = NUM ∧ 0 ≤ l ∧ 0 ≤ o ∧ l + o ≤ 40000 from ⟨by rw [show (b - a).toNat = 0 from by omega] at i6; simp only [numA] at i6; omega, i3, i4, by omega⟩)
      go_wp2
      go_ret2
      exact ⟨⟨l, o, rfl, HS.out⟩, HB.out⟩
set_option maxHeartbeats 8000000 in
set_option maxRecDepth 100000 in
theorem countS_c (a b c : Int) (hv : validC a b c) (w : World) :
    Calls Try.prog 125 #[.int .i64 a, .int .i64 b, .int .i64 c] w fun e w' => e = .returned (.tuple #[.agg #[.int .i64 (countA a b c).1, .int .i64 (countA a b c).2.1], .bool (countA a b c).2.2]) ∧ Below w.heap.size w w' := by
  have HB := am_ (Below.refl w.heap.size w)
  obtain ⟨ha, hb, hab, hc⟩ := hv
  have ht := thirty_bd a b ha hb hab
  have hnb := num_bd (b - a).toNat a
  obtain ⟨FR, hFR⟩ : ∃ F, F = countA a b c := ⟨_, rfl⟩
  rw [← hFR]
  unfold countA at hFR
  by_cases c1 : c = 1
  · subst c1
    rw [if_pos rfl] at hFR
    obtain ⟨k, hk⟩ := roundsOf (specMake_ev (b - a) 360 (by omega) (by omega) (by omega))
    rw [← hFR] at hk
    obtain ⟨n, d, o⟩ := FR
    have HK := am_ hk
    clear hk hFR ht hnb
    go_enter Try.func125, Try.ntmps125
    go_wp2_with (((with_reducible refine gate_dst (N := 6) rfl ?_); refine box_event ?hg (N := 6) ?hd (cs := #[.int .i64 0, .int .i64 0]) (t := 24) ?hr ?_; (case hd => rfl); (case hg => rfl); (case hr => first | (go_simp; done) | (go_simp; rfl))); intro g1 hg w_g1 hbox hb; have n_ := am_ (below_step (by repeat first | (with_reducible first | exact HB.out | apply ba_ | apply bn_ | apply bd_) | exact HB.out) hb); have BKg1 := am_ hbox; have GEg1 := am_ (show w.heap.size ≤ g1 from by rw [hg]; exact below_size (by repeat first | (with_reducible first | exact HB.out | apply ba_ | apply bn_ | apply bd_) | exact HB.out)); clear HB ; have HB := n_; clear n_ hb hbox hg)
    refine (spec_MakeFraction.calls k _ _ n d o _ HK.out).mono ?_
    rintro e w1 ⟨rfl, hb⟩
    replace BKg1 := am_ (blk_below (blk_below BKg1.out (by repeat first | exact Below.refl _ _ | apply ba_ | apply bn_ | apply bd_)) hb); replace HB := am_ (below_step (by repeat first | (with_reducible first | exact HB.out | apply ba_ | apply bn_ | apply bd_) | exact HB.out) hb); clear hb
    have yg1_0 : w1.cell? ⟨g1, 0, none⟩ = some (.int .i64 0) := (blk_cell BKg1.out 0).trans rfl; have fg1_0 := blk_frozen BKg1.out 0; have yg1_1 : w1.cell? ⟨g1, 1, none⟩ = some (.int .i64 0) := (blk_cell BKg1.out 1).trans rfl; have fg1_1 := blk_frozen BKg1.out 1
    go_wp2
    refine bodyPost_ret (results_ct rfl _ _ g1 24 #[.int .i64 n, .int .i64 d] (0, 0) _ rfl (by (with_reducible repeat first | refine kn_ ?_ _ | refine kd_ ?_ | refine ka_ ?_ _); refine blk_put (cs := #[.int .i64 n, .int .i64 0]) ?_ 1 _ rfl; (with_reducible repeat first | refine kn_ ?_ _ | refine kd_ ?_ | refine ka_ ?_ _); refine blk_put (cs := #[.int .i64 0, .int .i64 0]) ?_ 0 _ rfl; (with_reducible repeat first | refine kn_ ?_ _ | refine kd_ ?_ | refine ka_ ?_ _); exact BKg1.out) Try.underlying24 rfl (by kernel_rfl)) rfl ?_
    exact ⟨rfl, (by repeat first | (with_reducible first | exact HB.out | apply ba_ | apply bn_ | apply bd_ | refine below_set ?_ GEg1.out) | exact HB.out)⟩
  rw [if_neg c1] at hFR
  have cb1 : (c == 1) = false := by rw [beq_eq_false_iff_ne]; exact c1
  by_cases c2 : c = 2
  · subst c2
    rw [if_pos rfl] at hFR
    clear c1 cb1
    obtain ⟨k, hk⟩ := roundsOf (specMake_ev (b - a) 365 (by omega) (by omega) (by omega))
    rw [← hFR] at hk
    obtain ⟨n, d, o⟩ := FR
    have HK := am_ hk
    clear hk hFR ht hnb
    go_enter Try.func125, Try.ntmps125
    go_wp2_with (((with_reducible refine gate_dst (N := 6) rfl ?_); refine box_event ?hg (N := 6) ?hd (cs := #[.int .i64 0, .int .i64 0]) (t := 24) ?hr ?_; (case hd => rfl); (case hg => rfl); (case hr => first | (go_simp; done) | (go_simp; rfl))); intro g1 hg w_g1 hbox hb; have n_ := am_ (below_step (by repeat first | (with_reducible first | exact HB.out | apply ba_ | apply bn_ | apply bd_) | exact HB.out) hb); have BKg1 := am_ hbox; have GEg1 := am_ (show w.heap.size ≤ g1 from by rw [hg]; exact below_size (by repeat first | (with_reducible first | exact HB.out | apply ba_ | apply bn_ | apply bd_) | exact HB.out)); clear HB ; have HB := n_; clear n_ hb hbox hg)
    refine (spec_MakeFraction.calls k _ _ n d o _ HK.out).mono ?_
    rintro e w1 ⟨rfl, hb⟩
    replace BKg1 := am_ (blk_below (blk_below BKg1.out (by repeat first | exact Below.refl _ _ | apply ba_ | apply bn_ | apply bd_)) hb); replace HB := am_ (below_step (by repeat first | (with_reducible first | exact HB.out | apply ba_ | apply bn_ | apply bd_) | exact HB.out) hb); clear hb
    have yg1_0 : w1.cell? ⟨g1, 0, none⟩ = some (.int .i64 0) := (blk_cell BKg1.out 0).trans rfl; have fg1_0 := blk_frozen BKg1.out 0; have yg1_1 : w1.cell? ⟨g1, 1, none⟩ = some (.int .i64 0) := (blk_cell BKg1.out 1).trans rfl; have fg1_1 := blk_frozen BKg1.out 1
    go_wp2
    refine bodyPost_ret (results_ct rfl _ _ g1 24 #[.int .i64 n, .int .i64 d] (0, 0) _ rfl (by (with_reducible repeat first | refine kn_ ?_ _ | refine kd_ ?_ | refine ka_ ?_ _); refine blk_put (cs := #[.int .i64 n, .int .i64 0]) ?_ 1 _ rfl; (with_reducible repeat first | refine kn_ ?_ _ | refine kd_ ?_ | refine ka_ ?_ _); refine blk_put (cs := #[.int .i64 0, .int .i64 0]) ?_ 0 _ rfl; (with_reducible repeat first | refine kn_ ?_ _ | refine kd_ ?_ | refine ka_ ?_ _); exact BKg1.out) Try.underlying24 rfl (by kernel_rfl)) rfl ?_
    exact ⟨rfl, (by repeat first | (with_reducible first | exact HB.out | apply ba_ | apply bn_ | apply bd_ | refine below_set ?_ GEg1.out) | exact HB.out)⟩
  rw [if_neg c2] at hFR
  have cb2 : (c == 2) = false := by rw [beq_eq_false_iff_ne]; exact c2
  by_cases c3 : c = 3
  · subst c3
    rw [if_pos rfl] at hFR
    clear c1 cb1 c2 cb2
    obtain ⟨TH, hTH⟩ : ∃ T, T = thirtyA a b := ⟨_, rfl⟩
    rw [← hTH] at hFR ht
    have HTH := am_ (show TH = thirtyA a b from hTH)
    clear hTH
    obtain ⟨k, hk⟩ := roundsOf (specMake_ev (TH) 360 (by omega) (by omega) (by omega))
    rw [← hFR] at hk
    obtain ⟨n, d, o⟩ := FR
    have HK := am_ hk
    have HA := am_ ha
    have HBB := am_ hb
    clear ha hb hab
    clear hk hFR ht hnb
    go_enter Try.func125, Try.ntmps125
    go_wp2_with (((with_reducible refine gate_dst (N := 6) rfl ?_); refine box_event ?hg (N := 6) ?hd (cs := #[.int .i64 0, .int .i64 0]) (t := 24) ?hr ?_; (case hd => rfl); (case hg => rfl); (case hr => first | (go_simp; done) | (go_simp; rfl))); intro g1 hg w_g1 hbox hb; have n_ := am_ (below_step (by repeat first | (with_reducible first | exact HB.out | apply ba_ | apply bn_ | apply bd_) | exact HB.out) hb); have BKg1 := am_ hbox; have GEg1 := am_ (show w.heap.size ≤ g1 from by rw [hg]; exact below_size (by repeat first | (with_reducible first | exact HB.out | apply ba_ | apply bn_ | apply bd_) | exact HB.out)); clear HB ; have HB := n_; clear n_ hb hbox hg)
    refine (thirtyS_c a b HA.out HBB.out _).mono ?_
    rw [← HTH.out]
    rintro e w2 ⟨rfl, hb⟩
    replace BKg1 := am_ (blk_below (blk_below BKg1.out (by repeat first | exact Below.refl _ _ | apply ba_ | apply bn_ | apply bd_)) hb); replace HB := am_ (below_step (by repeat first | (with_reducible first | exact HB.out | apply ba_ | apply bn_ | apply bd_) | exact HB.out) hb); clear hb
    go_wp2_with fail
    refine (spec_MakeFraction.calls k _ _ n d o _ HK.out).mono ?_
    rintro e w1 ⟨rfl, hb⟩
    replace BKg1 := am_ (blk_below (blk_below BKg1.out (by repeat first | exact Below.refl _ _ | apply ba_ | apply bn_ | apply bd_)) hb); replace HB := am_ (below_step (by repeat first | (with_reducible first | exact HB.out | apply ba_ | apply bn_ | apply bd_) | exact HB.out) hb); clear hb
    have yg1_0 : w1.cell? ⟨g1, 0, none⟩ = some (.int .i64 0) := (blk_cell BKg1.out 0).trans rfl; have fg1_0 := blk_frozen BKg1.out 0; have yg1_1 : w1.cell? ⟨g1, 1, none⟩ = some (.int .i64 0) := (blk_cell BKg1.out 1).trans rfl; have fg1_1 := blk_frozen BKg1.out 1
    go_wp2
    refine bodyPost_ret (results_ct rfl _ _ g1 24 #[.int .i64 n, .int .i64 d] (0, 0) _ rfl (by (with_reducible repeat first | refine kn_ ?_ _ | refine kd_ ?_ | refine ka_ ?_ _); refine blk_put (cs := #[.int .i64 n, .int .i64 0]) ?_ 1 _ rfl; (with_reducible repeat first | refine kn_ ?_ _ | refine kd_ ?_ | refine ka_ ?_ _); refine blk_put (cs := #[.int .i64 0, .int .i64 0]) ?_ 0 _ rfl; (with_reducible repeat first | refine kn_ ?_ _ | refine kd_ ?_ | refine ka_ ?_ _); exact BKg1.out) Try.underlying24 rfl (by kernel_rfl)) rfl ?_
    exact ⟨rfl, (by repeat first | (with_reducible first | exact HB.out | apply ba_ | apply bn_ | apply bd_ | refine below_set ?_ GEg1.out) | exact HB.out)⟩
  rw [if_neg c3] at hFR
  have cb3 : (c == 3) = false := by rw [beq_eq_false_iff_ne]; exact c3
  clear c1 c2 c3
  obtain ⟨NU, hNU⟩ : ∃ T, T = numA a (b - a).toNat := ⟨_, rfl⟩
  rw [← hNU] at hFR hnb
  have HNU := am_ (show NU = numA a (b - a).toNat from hNU)
  have hb20 : NU ≤ 366 * 36524 := by omega
  clear hNU
  obtain ⟨k, hk⟩ := roundsOf (specMake_ev (NU) 133590 (by omega) (by omega) (by omega))
  rw [← hFR] at hk
  obtain ⟨n, d, o⟩ := FR
  have HK := am_ hk
  have HA := am_ (show 0 ≤ a ∧ a ≤ b from ⟨ha.1, hab⟩)
  have HBB := am_ hb.2
  clear ha hb hab hc
  clear hk hFR ht hnb
  go_enter Try.func125, Try.ntmps125
  go_wp2_with (((with_reducible refine gate_dst (N := 6) rfl ?_); refine box_event ?hg (N := 6) ?hd (cs := #[.int .i64 0, .int .i64 0]) (t := 24) ?hr ?_; (case hd => rfl); (case hg => rfl); (case hr => first | (go_simp; done) | (go_simp; rfl))); intro g1 hg w_g1 hbox hb; have n_ := am_ (below_step (by repeat first | (with_reducible first | exact HB.out | apply ba_ | apply bn_ | apply bd_) | exact HB.out) hb); have BKg1 := am_ hbox; have GEg1 := am_ (show w.heap.size ≤ g1 from by rw [hg]; exact below_size (by repeat first | (with_reducible first | exact HB.out | apply ba_ | apply bn_ | apply bd_) | exact HB.out)); clear HB ; have HB := n_; clear n_ hb hbox hg)
  refine (yearsS_c a b HA.out HBB.out _).mono ?_
  rw [← HNU.out]
  rintro e w2 ⟨⟨l, o', rfl, hlo, hl, ho, hlo2⟩, hb⟩
  replace BKg1 := am_ (blk_below (blk_below BKg1.out (by repeat first | exact Below.refl _ _ | apply ba_ | apply bn_ | apply bd_)) hb); replace HB := am_ (below_step (by repeat first | (with_reducible first | exact HB.out | apply ba_ | apply bn_ | apply bd_) | exact HB.out) hb); clear hb
  go_wp2_with fail
  refine calls_of_args (args' := #[.int .i64 NU, .int .i64 133590]) rfl ?_
  refine (spec_MakeFraction.calls k _ _ n d o _ HK.out).mono ?_
  rintro e w1 ⟨rfl, hb⟩
  replace BKg1 := am_ (blk_below (blk_below BKg1.out (by repeat first | exact Below.refl _ _ | apply ba_ | apply bn_ | apply bd_)) hb); replace HB := am_ (below_step (by repeat first | (with_reducible first | exact HB.out | apply ba_ | apply bn_ | apply bd_) | exact HB.out) hb); clear hb
  have yg1_0 : w1.cell? ⟨g1, 0, none⟩ = some (.int .i64 0) := (blk_cell BKg1.out 0).trans rfl; have fg1_0 := blk_frozen BKg1.out 0; have yg1_1 : w1.cell? ⟨g1, 1, none⟩ = some (.int .i64 0) := (blk_cell BKg1.out 1).trans rfl; have fg1_1 := blk_frozen BKg1.out 1
  go_wp2
  refine bodyPost_ret (results_ct rfl _ _ g1 24 #[.int .i64 n, .int .i64 d] (0, 0) _ rfl (by (with_reducible repeat first | refine kn_ ?_ _ | refine kd_ ?_ | refine ka_ ?_ _); refine blk_put (cs := #[.int .i64 n, .int .i64 0]) ?_ 1 _ rfl; (with_reducible repeat first | refine kn_ ?_ _ | refine kd_ ?_ | refine ka_ ?_ _); refine blk_put (cs := #[.int .i64 0, .int .i64 0]) ?_ 0 _ rfl; (with_reducible repeat first | refine kn_ ?_ _ | refine kd_ ?_ | refine ka_ ?_ _); exact BKg1.out) Try.underlying24 rfl (by kernel_rfl)) rfl ?_
  exact ⟨rfl, (by repeat first | (with_reducible first | exact HB.out | apply ba_ | apply bn_ | apply bd_ | refine below_set ?_ GEg1.out) | exact HB.out)⟩
set_option maxHeartbeats 8000000 in
set_option maxRecDepth 100000 in
theorem dayCountS_c (a b c : Int) (w : World) :
    Calls Try.prog 102 #[.int .i64 a, .int .i64 b, .int .i64 c] w fun e w' => e = .returned (.tuple #[.agg #[.int .i64 (dayCountA a b c).1, .int .i64 (dayCountA a b c).2.1], .bool (dayCountA a b c).2.2]) ∧ Below w.heap.size w w' := by
  have HB := am_ (Below.refl w.heap.size w)
  have g0_ := l3Good_eq a
  by_cases c0_ : 0 ≤ a ∧ a ≤ 36524
  · rw [decide_eq_true c0_] at g0_
    have G1 := am_ g0_
    clear g0_
    have g1_ := l3Good_eq b
    by_cases c1_ : 0 ≤ b ∧ b ≤ 36524
    · rw [decide_eq_true c1_] at g1_
      have G2 := am_ g1_
      clear g1_
      by_cases c2_ : ¬ b < a
      · have cb2_ : decide (¬ b < a) = true := decide_eq_true c2_
        have g3_ := l1In_eq c 1 4
        by_cases c3_ : 1 ≤ c ∧ c ≤ 4
        · rw [decide_eq_true c3_] at g3_
          have G3 := am_ g3_
          clear g3_
          have hv : validC a b c := ⟨c0_, c1_, by omega, c3_⟩
          have hfin : dayCountA a b c = countA a b c := by unfold dayCountA; rw [if_pos hv]
          rw [hfin]
          obtain ⟨FR, hFR⟩ : ∃ F, F = countA a b c := ⟨_, rfl⟩
          have HFR := am_ hFR.symm
          rw [← hFR]
          obtain ⟨n, d, o⟩ := FR
          clear hFR
          have HV := am_ hv
          have cab_ : decide (b < a) = false := decide_eq_false c2_
          clear hfin hv c0_ c1_ c3_
          go_enter Try.func102, Try.ntmps102
          go_wp2_with (((with_reducible refine gate_dst (N := 6) rfl ?_); refine box_event ?hg (N := 6) ?hd (cs := #[.int .i64 0,.int .i64 0]) (t := 24) ?hr ?_; (case hd => rfl); (case hg => rfl); (case hr => first | (go_simp; done) | (go_simp; rfl))); intro g1 hg w_g1 hbox hb; have n_ := am_ (below_step (by repeat first | (with_reducible first | exact HB.out | apply ba_ | apply bn_ | apply bd_) | exact HB.out) hb); have BKg1 := am_ hbox; have GEg1 := am_ (show w.heap.size ≤ g1 from by rw [hg]; exact below_size (by repeat first | (with_reducible first | exact HB.out | apply ba_ | apply bn_ | apply bd_) | exact HB.out)); clear HB ; have HB := n_; clear n_ hb hbox hg)
          refine (spec_l3Good.calls a true _ G1.out).mono ?_
          rintro e w1_ ⟨rfl, hb0⟩
          have hb := db_ hb0
          clear hb0
          replace BKg1 := am_ (blk_below (blk_below BKg1.out (by repeat first | exact Below.refl _ _ | apply ba_ | apply bn_ | apply bd_)) hb); replace HB := am_ (below_step (by repeat first | (with_reducible first | exact HB.out | apply ba_ | apply bn_ | apply bd_) | exact HB.out) hb); clear hb
          go_wp2_with fail
          refine (spec_l3Good.calls b true _ G2.out).mono ?_
          rintro e w2_ ⟨rfl, hb0⟩
          have hb := db_ hb0
          clear hb0
          replace BKg1 := am_ (blk_below (blk_below BKg1.out (by repeat first | exact Below.refl _ _ | apply ba_ | apply bn_ | apply bd_)) hb); replace HB := am_ (below_step (by repeat first | (with_reducible first | exact HB.out | apply ba_ | apply bn_ | apply bd_) | exact HB.out) hb); clear hb
          go_wp2_with fail
          refine (spec_l1In.calls c 1 4 true _ G3.out).mono ?_
          rintro e w3_ ⟨rfl, hb0⟩
          have hb := db_ hb0
          clear hb0
          replace BKg1 := am_ (blk_below (blk_below BKg1.out (by repeat first | exact Below.refl _ _ | apply ba_ | apply bn_ | apply bd_)) hb); replace HB := am_ (below_step (by repeat first | (with_reducible first | exact HB.out | apply ba_ | apply bn_ | apply bd_) | exact HB.out) hb); clear hb
          go_wp2_with fail
          refine (countS_c a b c HV.out _).mono ?_
          rw [HFR.out]
          rintro e w9_ ⟨rfl, hb⟩
          replace BKg1 := am_ (blk_below (blk_below BKg1.out (by repeat first | exact Below.refl _ _ | apply ba_ | apply bn_ | apply bd_)) hb); replace HB := am_ (below_step (by repeat first | (with_reducible first | exact HB.out | apply ba_ | apply bn_ | apply bd_) | exact HB.out) hb); clear hb
          have yg1_0 : w9_.cell? ⟨g1, 0, none⟩ = some (.int .i64 0) := (blk_cell BKg1.out 0).trans rfl; have fg1_0 := blk_frozen BKg1.out 0; have yg1_1 : w9_.cell? ⟨g1, 1, none⟩ = some (.int .i64 0) := (blk_cell BKg1.out 1).trans rfl; have fg1_1 := blk_frozen BKg1.out 1
          go_wp2
          refine bodyPost_ret (results_ct rfl _ _ g1 24 #[.int .i64 n, .int .i64 d] (0, 0) _ rfl (by (with_reducible repeat first | refine kn_ ?_ _ | refine kd_ ?_ | refine ka_ ?_ _); refine blk_put (cs := #[.int .i64 n, .int .i64 0]) ?_ 1 _ rfl; (with_reducible repeat first | refine kn_ ?_ _ | refine kd_ ?_ | refine ka_ ?_ _); refine blk_put (cs := #[.int .i64 0, .int .i64 0]) ?_ 0 _ rfl; (with_reducible repeat first | refine kn_ ?_ _ | refine kd_ ?_ | refine ka_ ?_ _); exact BKg1.out) Try.underlying24 rfl (by kernel_rfl)) rfl ?_
          exact ⟨rfl, (by repeat first | (with_reducible first | exact HB.out | apply ba_ | apply bn_ | apply bd_ | refine below_set ?_ GEg1.out) | exact HB.out)⟩
        · rw [decide_eq_false c3_] at g3_
          have G3 := am_ g3_
          clear g3_
          have hfin : dayCountA a b c = (0, 0, false) := by unfold dayCountA; rw [if_neg (fun v => c3_ v.2.2.2)]
          rw [hfin]
          clear hfin
          have cab_ : decide (b < a) = false := decide_eq_false c2_
          go_enter Try.func102, Try.ntmps102
          go_wp2_with (((with_reducible refine gate_dst (N := 6) rfl ?_); refine box_event ?hg (N := 6) ?hd (cs := #[.int .i64 0,.int .i64 0]) (t := 24) ?hr ?_; (case hd => rfl); (case hg => rfl); (case hr => first | (go_simp; done) | (go_simp; rfl))); intro g1 hg w_g1 hbox hb; have n_ := am_ (below_step (by repeat first | (with_reducible first | exact HB.out | apply ba_ | apply bn_ | apply bd_) | exact HB.out) hb); have BKg1 := am_ hbox; have GEg1 := am_ (show w.heap.size ≤ g1 from by rw [hg]; exact below_size (by repeat first | (with_reducible first | exact HB.out | apply ba_ | apply bn_ | apply bd_) | exact HB.out)); clear HB ; have HB := n_; clear n_ hb hbox hg)
          refine (spec_l3Good.calls a true _ G1.out).mono ?_
          rintro e w1_ ⟨rfl, hb0⟩
          have hb := db_ hb0
          clear hb0
          replace BKg1 := am_ (blk_below (blk_below BKg1.out (by repeat first | exact Below.refl _ _ | apply ba_ | apply bn_ | apply bd_)) hb); replace HB := am_ (below_step (by repeat first | (with_reducible first | exact HB.out | apply ba_ | apply bn_ | apply bd_) | exact HB.out) hb); clear hb
          go_wp2_with fail
          refine (spec_l3Good.calls b true _ G2.out).mono ?_
          rintro e w2_ ⟨rfl, hb0⟩
          have hb := db_ hb0
          clear hb0
          replace BKg1 := am_ (blk_below (blk_below BKg1.out (by repeat first | exact Below.refl _ _ | apply ba_ | apply bn_ | apply bd_)) hb); replace HB := am_ (below_step (by repeat first | (with_reducible first | exact HB.out | apply ba_ | apply bn_ | apply bd_) | exact HB.out) hb); clear hb
          go_wp2_with fail
          refine (spec_l1In.calls c 1 4 false _ G3.out).mono ?_
          rintro e w3_ ⟨rfl, hb0⟩
          have hb := db_ hb0
          clear hb0
          replace BKg1 := am_ (blk_below (blk_below BKg1.out (by repeat first | exact Below.refl _ _ | apply ba_ | apply bn_ | apply bd_)) hb); replace HB := am_ (below_step (by repeat first | (with_reducible first | exact HB.out | apply ba_ | apply bn_ | apply bd_) | exact HB.out) hb); clear hb
          have yg1_0 : w3_.cell? ⟨g1, 0, none⟩ = some (.int .i64 0) := (blk_cell BKg1.out 0).trans rfl; have fg1_0 := blk_frozen BKg1.out 0; have yg1_1 : w3_.cell? ⟨g1, 1, none⟩ = some (.int .i64 0) := (blk_cell BKg1.out 1).trans rfl; have fg1_1 := blk_frozen BKg1.out 1
          go_wp2
          refine bodyPost_ret (results_ct rfl _ _ g1 24 #[.int .i64 0, .int .i64 0] (0, 0) _ rfl (by (with_reducible repeat first | refine kn_ ?_ _ | refine kd_ ?_ | refine ka_ ?_ _); refine blk_put (cs := #[.int .i64 0, .int .i64 0]) ?_ 1 _ rfl; (with_reducible repeat first | refine kn_ ?_ _ | refine kd_ ?_ | refine ka_ ?_ _); refine blk_put (cs := #[.int .i64 0, .int .i64 0]) ?_ 0 _ rfl; (with_reducible repeat first | refine kn_ ?_ _ | refine kd_ ?_ | refine ka_ ?_ _); exact BKg1.out) Try.underlying24 rfl (by kernel_rfl)) rfl ?_
          exact ⟨rfl, (by repeat first | (with_reducible first | exact HB.out | apply ba_ | apply bn_ | apply bd_ | refine below_set ?_ GEg1.out) | exact HB.out)⟩
      · have cb2_ : decide (¬ b < a) = false := decide_eq_false c2_
        have hfin : dayCountA a b c = (0, 0, false) := by unfold dayCountA; rw [if_neg (fun v => c2_ (by have := v.2.2.1; omega))]
        rw [hfin]
        clear hfin
        have cab_ : decide (b < a) = true := decide_eq_true (by omega)
        go_enter Try.func102, Try.ntmps102
        go_wp2_with (((with_reducible refine gate_dst (N := 6) rfl ?_); refine box_event ?hg (N := 6) ?hd (cs := #[.int .i64 0,.int .i64 0]) (t := 24) ?hr ?_; (case hd => rfl); (case hg => rfl); (case hr => first | (go_simp; done) | (go_simp; rfl))); intro g1 hg w_g1 hbox hb; have n_ := am_ (below_step (by repeat first | (with_reducible first | exact HB.out | apply ba_ | apply bn_ | apply bd_) | exact HB.out) hb); have BKg1 := am_ hbox; have GEg1 := am_ (show w.heap.size ≤ g1 from by rw [hg]; exact below_size (by repeat first | (with_reducible first | exact HB.out | apply ba_ | apply bn_ | apply bd_) | exact HB.out)); clear HB ; have HB := n_; clear n_ hb hbox hg)
        refine (spec_l3Good.calls a true _ G1.out).mono ?_
        rintro e w1_ ⟨rfl, hb0⟩
        have hb := db_ hb0
        clear hb0
        replace BKg1 := am_ (blk_below (blk_below BKg1.out (by repeat first | exact Below.refl _ _ | apply ba_ | apply bn_ | apply bd_)) hb); replace HB := am_ (below_step (by repeat first | (with_reducible first | exact HB.out | apply ba_ | apply bn_ | apply bd_) | exact HB.out) hb); clear hb
        go_wp2_with fail
        refine (spec_l3Good.calls b true _ G2.out).mono ?_
        rintro e w2_ ⟨rfl, hb0⟩
        have hb := db_ hb0
        clear hb0
        replace BKg1 := am_ (blk_below (blk_below BKg1.out (by repeat first | exact Below.refl _ _ | apply ba_ | apply bn_ | apply bd_)) hb); replace HB := am_ (below_step (by repeat first | (with_reducible first | exact HB.out | apply ba_ | apply bn_ | apply bd_) | exact HB.out) hb); clear hb
        have yg1_0 : w2_.cell? ⟨g1, 0, none⟩ = some (.int .i64 0) := (blk_cell BKg1.out 0).trans rfl; have fg1_0 := blk_frozen BKg1.out 0; have yg1_1 : w2_.cell? ⟨g1, 1, none⟩ = some (.int .i64 0) := (blk_cell BKg1.out 1).trans rfl; have fg1_1 := blk_frozen BKg1.out 1
        go_wp2
        refine bodyPost_ret (results_ct rfl _ _ g1 24 #[.int .i64 0, .int .i64 0] (0, 0) _ rfl (by (with_reducible repeat first | refine kn_ ?_ _ | refine kd_ ?_ | refine ka_ ?_ _); refine blk_put (cs := #[.int .i64 0, .int .i64 0]) ?_ 1 _ rfl; (with_reducible repeat first | refine kn_ ?_ _ | refine kd_ ?_ | refine ka_ ?_ _); refine blk_put (cs := #[.int .i64 0, .int .i64 0]) ?_ 0 _ rfl; (with_reducible repeat first | refine kn_ ?_ _ | refine kd_ ?_ | refine ka_ ?_ _); exact BKg1.out) Try.underlying24 rfl (by kernel_rfl)) rfl ?_
        exact ⟨rfl, (by repeat first | (with_reducible first | exact HB.out | apply ba_ | apply bn_ | apply bd_ | refine below_set ?_ GEg1.out) | exact HB.out)⟩
    · rw [decide_eq_false c1_] at g1_
      have G2 := am_ g1_
      clear g1_
      have hfin : dayCountA a b c = (0, 0, false) := by unfold dayCountA; rw [if_neg (fun v => c1_ v.2.1)]
      rw [hfin]
      clear hfin
      go_enter Try.func102, Try.ntmps102
      go_wp2_with (((with_reducible refine gate_dst (N := 6) rfl ?_); refine box_event ?hg (N := 6) ?hd (cs := #[.int .i64 0,.int .i64 0]) (t := 24) ?hr ?_; (case hd => rfl); (case hg => rfl); (case hr => first | (go_simp; done) | (go_simp; rfl))); intro g1 hg w_g1 hbox hb; have n_ := am_ (below_step (by repeat first | (with_reducible first | exact HB.out | apply ba_ | apply bn_ | apply bd_) | exact HB.out) hb); have BKg1 := am_ hbox; have GEg1 := am_ (show w.heap.size ≤ g1 from by rw [hg]; exact below_size (by repeat first | (with_reducible first | exact HB.out | apply ba_ | apply bn_ | apply bd_) | exact HB.out)); clear HB ; have HB := n_; clear n_ hb hbox hg)
      refine (spec_l3Good.calls a true _ G1.out).mono ?_
      rintro e w1_ ⟨rfl, hb0⟩
      have hb := db_ hb0
      clear hb0
      replace BKg1 := am_ (blk_below (blk_below BKg1.out (by repeat first | exact Below.refl _ _ | apply ba_ | apply bn_ | apply bd_)) hb); replace HB := am_ (below_step (by repeat first | (with_reducible first | exact HB.out | apply ba_ | apply bn_ | apply bd_) | exact HB.out) hb); clear hb
      go_wp2_with fail
      refine (spec_l3Good.calls b false _ G2.out).mono ?_
      rintro e w2_ ⟨rfl, hb0⟩
      have hb := db_ hb0
      clear hb0
      replace BKg1 := am_ (blk_below (blk_below BKg1.out (by repeat first | exact Below.refl _ _ | apply ba_ | apply bn_ | apply bd_)) hb); replace HB := am_ (below_step (by repeat first | (with_reducible first | exact HB.out | apply ba_ | apply bn_ | apply bd_) | exact HB.out) hb); clear hb
      have yg1_0 : w2_.cell? ⟨g1, 0, none⟩ = some (.int .i64 0) := (blk_cell BKg1.out 0).trans rfl; have fg1_0 := blk_frozen BKg1.out 0; have yg1_1 : w2_.cell? ⟨g1, 1, none⟩ = some (.int .i64 0) := (blk_cell BKg1.out 1).trans rfl; have fg1_1 := blk_frozen BKg1.out 1
      go_wp2
      refine bodyPost_ret (results_ct rfl _ _ g1 24 #[.int .i64 0, .int .i64 0] (0, 0) _ rfl (by (with_reducible repeat first | refine kn_ ?_ _ | refine kd_ ?_ | refine ka_ ?_ _); refine blk_put (cs := #[.int .i64 0, .int .i64 0]) ?_ 1 _ rfl; (with_reducible repeat first | refine kn_ ?_ _ | refine kd_ ?_ | refine ka_ ?_ _); refine blk_put (cs := #[.int .i64 0, .int .i64 0]) ?_ 0 _ rfl; (with_reducible repeat first | refine kn_ ?_ _ | refine kd_ ?_ | refine ka_ ?_ _); exact BKg1.out) Try.underlying24 rfl (by kernel_rfl)) rfl ?_
      exact ⟨rfl, (by repeat first | (with_reducible first | exact HB.out | apply ba_ | apply bn_ | apply bd_ | refine below_set ?_ GEg1.out) | exact HB.out)⟩
  · rw [decide_eq_false c0_] at g0_
    have G1 := am_ g0_
    clear g0_
    have hfin : dayCountA a b c = (0, 0, false) := by unfold dayCountA; rw [if_neg (fun v => c0_ v.1)]
    rw [hfin]
    clear hfin
    go_enter Try.func102, Try.ntmps102
    go_wp2_with (((with_reducible refine gate_dst (N := 6) rfl ?_); refine box_event ?hg (N := 6) ?hd (cs := #[.int .i64 0,.int .i64 0]) (t := 24) ?hr ?_; (case hd => rfl); (case hg => rfl); (case hr => first | (go_simp; done) | (go_simp; rfl))); intro g1 hg w_g1 hbox hb; have n_ := am_ (below_step (by repeat first | (with_reducible first | exact HB.out | apply ba_ | apply bn_ | apply bd_) | exact HB.out) hb); have BKg1 := am_ hbox; have GEg1 := am_ (show w.heap.size ≤ g1 from by rw [hg]; exact below_size (by repeat first | (with_reducible first | exact HB.out | apply ba_ | apply bn_ | apply bd_) | exact HB.out)); clear HB ; have HB := n_; clear n_ hb hbox hg)
    refine (spec_l3Good.calls a false _ G1.out).mono ?_
    rintro e w1_ ⟨rfl, hb0⟩
    have hb := db_ hb0
    clear hb0
    replace BKg1 := am_ (blk_below (blk_below BKg1.out (by repeat first | exact Below.refl _ _ | apply ba_ | apply bn_ | apply bd_)) hb); replace HB := am_ (below_step (by repeat first | (with_reducible first | exact HB.out | apply ba_ | apply bn_ | apply bd_) | exact HB.out) hb); clear hb
    have yg1_0 : w1_.cell? ⟨g1, 0, none⟩ = some (.int .i64 0) := (blk_cell BKg1.out 0).trans rfl; have fg1_0 := blk_frozen BKg1.out 0; have yg1_1 : w1_.cell? ⟨g1, 1, none⟩ = some (.int .i64 0) := (blk_cell BKg1.out 1).trans rfl; have fg1_1 := blk_frozen BKg1.out 1
    go_wp2
    refine bodyPost_ret (results_ct rfl _ _ g1 24 #[.int .i64 0, .int .i64 0] (0, 0) _ rfl (by (with_reducible repeat first | refine kn_ ?_ _ | refine kd_ ?_ | refine ka_ ?_ _); refine blk_put (cs := #[.int .i64 0, .int .i64 0]) ?_ 1 _ rfl; (with_reducible repeat first | refine kn_ ?_ _ | refine kd_ ?_ | refine ka_ ?_ _); refine blk_put (cs := #[.int .i64 0, .int .i64 0]) ?_ 0 _ rfl; (with_reducible repeat first | refine kn_ ?_ _ | refine kd_ ?_ | refine ka_ ?_ _); exact BKg1.out) Try.underlying24 rfl (by kernel_rfl)) rfl ?_
    exact ⟨rfl, (by repeat first | (with_reducible first | exact HB.out | apply ba_ | apply bn_ | apply bd_ | refine below_set ?_ GEg1.out) | exact HB.out)⟩
set_option maxHeartbeats 8000000 in
set_option maxRecDepth 100000 in
theorem growthS_c (n d x y c : Int) (w : World) :
    Calls Try.prog 52 #[.agg #[.int .i64 n, .int .i64 d], .int .i64 x, .int .i64 y, .int .i64 c] w fun e w' => e = .returned (.tuple #[.agg #[.int .i64 (growthA n d x y c).1, .int .i64 (growthA n d x y c).2.1], .bool (growthA n d x y c).2.2]) ∧ Below w.heap.size w w' := by
  have HB := am_ (Below.refl w.heap.size w)
  obtain ⟨DC, hDC⟩ : ∃ F, F = dayCountA x y c := ⟨_, rfl⟩
  have HDC := am_ hDC.symm
  obtain ⟨n1, d1, ok⟩ := DC
  cases ok with
  | false =>
    have hfin : growthA n d x y c = (0, 0, false) := by unfold growthA; rw [← hDC]; rfl
    rw [hfin]
    clear hfin hDC
    go_enter Try.func52, Try.ntmps52
    go_wp2_with (first
      | (((with_reducible refine gate_dst (N := 4) rfl ?_); refine box_event ?hg (N := 4) ?hd (cs := #[.int .i64 n,.int .i64 d]) (t := 24) ?hr ?_; (case hd => rfl); (case hg => rfl); (case hr => first | (go_simp; done) | (go_simp; rfl))); intro g1 hg w_g1 hbox hb; have n_ := am_ (below_step (by repeat first | (with_reducible first | exact HB.out | apply ba_ | apply bn_ | apply bd_) | exact HB.out) hb); have BKg1 := am_ hbox; have GEg1 := am_ (show w.heap.size ≤ g1 from by rw [hg]; exact below_size (by repeat first | (with_reducible first | exact HB.out | apply ba_ | apply bn_ | apply bd_) | exact HB.out)); clear HB ; have HB := n_; clear n_ hb hbox hg)
      | (((with_reducible refine gate_dst (N := 8) rfl ?_); refine box_event ?hg (N := 8) ?hd (cs := #[.int .i64 0,.int .i64 0]) (t := 24) ?hr ?_; (case hd => rfl); (case hg => rfl); (case hr => first | (go_simp; done) | (go_simp; rfl))); intro g2 hg w_g2 hbox hb; have n_ := am_ (below_step (by repeat first | (with_reducible first | exact HB.out | apply ba_ | apply bn_ | apply bd_ | refine below_set ?_ GEg1.out) | exact HB.out) hb); have m_g1 := am_ (blk_below (blk_below BKg1.out (by repeat first | exact Below.refl _ _ | apply ba_ | apply bn_ | apply bd_)) hb); have NEg1_g2 := am_ (show g1 ≠ g2 from by rw [hg]; exact Nat.ne_of_lt (blk_lt (blk_below BKg1.out (by repeat first | exact Below.refl _ _ | apply ba_ | apply bn_ | apply bd_)))); have NEg2_g1 := am_ (Ne.symm NEg1_g2.out); have BKg2 := am_ hbox; have GEg2 := am_ (show w.heap.size ≤ g2 from by rw [hg]; exact below_size (by repeat first | (with_reducible first | exact HB.out | apply ba_ | apply bn_ | apply bd_ | refine below_set ?_ GEg1.out) | exact HB.out)); clear HB BKg1; have HB := n_; clear n_ hb hbox hg; have BKg1 := m_g1; clear m_g1)
      )
    refine (dayCountS_c x y c _).mono ?_
    rw [HDC.out]
    rintro e w1_ ⟨rfl, hb⟩
    replace BKg1 := am_ (blk_below (blk_below BKg1.out (by repeat first | exact Below.refl _ _ | apply ba_ | apply bn_ | apply bd_)) hb); replace BKg2 := am_ (blk_below (blk_below BKg2.out (by repeat first | exact Below.refl _ _ | apply ba_ | apply bn_ | apply bd_)) hb); replace HB := am_ (below_step (by repeat first | (with_reducible first | exact HB.out | apply ba_ | apply bn_ | apply bd_) | exact HB.out) hb); clear hb
    go_wp2_with ((((with_reducible refine gate_dst (N := 10) rfl ?_); refine box_event ?hg (N := 10) ?hd (cs := #[.int .i64 0, .int .i64 0]) (t := 24) ?hr ?_; (case hd => rfl); (case hg => rfl); (case hr => first | (go_simp; done) | (go_simp; rfl))); intro g3 hg w_g3 hbox hb; have n_ := am_ (below_step (by repeat first | (with_reducible first | exact HB.out | apply ba_ | apply bn_ | apply bd_ | refine below_set ?_ GEg1.out | refine below_set ?_ GEg2.out) | exact HB.out) hb); have m_g1 := am_ (blk_below (blk_below BKg1.out (by repeat first | exact Below.refl _ _ | apply ba_ | apply bn_ | apply bd_)) hb); have NEg1_g3 := am_ (show g1 ≠ g3 from by rw [hg]; exact Nat.ne_of_lt (blk_lt (blk_below BKg1.out (by repeat first | exact Below.refl _ _ | apply ba_ | apply bn_ | apply bd_)))); have NEg3_g1 := am_ (Ne.symm NEg1_g3.out); have m_g2 := am_ (blk_below (blk_below BKg2.out (by repeat first | exact Below.refl _ _ | apply ba_ | apply bn_ | apply bd_)) hb); have NEg2_g3 := am_ (show g2 ≠ g3 from by rw [hg]; exact Nat.ne_of_lt (blk_lt (blk_below BKg2.out (by repeat first | exact Below.refl _ _ | apply ba_ | apply bn_ | apply bd_)))); have NEg3_g2 := am_ (Ne.symm NEg2_g3.out); have BKg3 := am_ hbox; have GEg3 := am_ (show w.heap.size ≤ g3 from by rw [hg]; exact below_size (by repeat first | (with_reducible first | exact HB.out | apply ba_ | apply bn_ | apply bd_ | refine below_set ?_ GEg1.out | refine below_set ?_ GEg2.out) | exact HB.out)); clear HB BKg1 BKg2; have HB := n_; clear n_ hb hbox hg; have BKg1 := m_g1; clear m_g1; have BKg2 := m_g2; clear m_g2); have yg2_0 : w_g3.cell? ⟨g2, 0, none⟩ = some (.int .i64 0) := (blk_cell BKg2.out 0).trans rfl; have fg2_0 := blk_frozen BKg2.out 0; have yg2_1 : w_g3.cell? ⟨g2, 1, none⟩ = some (.int .i64 0) := (blk_cell BKg2.out 1).trans rfl; have fg2_1 := blk_frozen BKg2.out 1; have yg3_0 : w_g3.cell? ⟨g3, 0, none⟩ = some (.int .i64 0) := (blk_cell BKg3.out 0).trans rfl; have fg3_0 := blk_frozen BKg3.out 0; have yg3_1 : w_g3.cell? ⟨g3, 1, none⟩ = some (.int .i64 0) := (blk_cell BKg3.out 1).trans rfl; have fg3_1 := blk_frozen BKg3.out 1; have hn1_ := NEg2_g3.out; have hn2_ := NEg3_g2.out)
    refine bodyPost_ret (results_ct rfl _ _ g2 24 #[.int .i64 0, .int .i64 0] (0, 0) _ rfl (by (with_reducible repeat first | refine kn_ ?_ _ | refine kd_ ?_ | refine ka_ ?_ _); refine blk_put (cs := #[.int .i64 0, .int .i64 0]) ?_ 1 _ rfl; (with_reducible repeat first | refine kn_ ?_ _ | refine kd_ ?_ | refine ka_ ?_ _); refine blk_put (cs := #[.int .i64 0, .int .i64 0]) ?_ 0 _ rfl; (with_reducible repeat first | refine kn_ ?_ _ | refine kd_ ?_ | refine ka_ ?_ _ | refine kf_ ?_ NEg2_g3.out _); exact BKg2.out) Try.underlying24 rfl (by kernel_rfl)) rfl ?_
    exact ⟨rfl, (by repeat first | (with_reducible first | exact HB.out | apply ba_ | apply bn_ | apply bd_ | refine below_set ?_ GEg1.out | refine below_set ?_ GEg2.out | refine below_set ?_ GEg3.out) | exact HB.out)⟩
  | true =>
    have hfin : growthA n d x y c = multA n d n1 d1 := by unfold growthA; rw [← hDC]; rfl
    rw [hfin]
    obtain ⟨FR, hFR⟩ : ∃ F, F = multA n d n1 d1 := ⟨_, rfl⟩
    have HFR := am_ hFR.symm
    rw [← hFR]
    obtain ⟨n2, d2, o2⟩ := FR
    clear hFR
    clear hfin hDC
    go_enter Try.func52, Try.ntmps52
    go_wp2_with (first
      | (((with_reducible refine gate_dst (N := 4) rfl ?_); refine box_event ?hg (N := 4) ?hd (cs := #[.int .i64 n,.int .i64 d]) (t := 24) ?hr ?_; (case hd => rfl); (case hg => rfl); (case hr => first | (go_simp; done) | (go_simp; rfl))); intro g1 hg w_g1 hbox hb; have n_ := am_ (below_step (by repeat first | (with_reducible first | exact HB.out | apply ba_ | apply bn_ | apply bd_) | exact HB.out) hb); have BKg1 := am_ hbox; have GEg1 := am_ (show w.heap.size ≤ g1 from by rw [hg]; exact below_size (by repeat first | (with_reducible first | exact HB.out | apply ba_ | apply bn_ | apply bd_) | exact HB.out)); clear HB ; have HB := n_; clear n_ hb hbox hg)
      | (((with_reducible refine gate_dst (N := 8) rfl ?_); refine box_event ?hg (N := 8) ?hd (cs := #[.int .i64 0,.int .i64 0]) (t := 24) ?hr ?_; (case hd => rfl); (case hg => rfl); (case hr => first | (go_simp; done) | (go_simp; rfl))); intro g2 hg w_g2 hbox hb; have n_ := am_ (below_step (by repeat first | (with_reducible first | exact HB.out | apply ba_ | apply bn_ | apply bd_ | refine below_set ?_ GEg1.out) | exact HB.out) hb); have m_g1 := am_ (blk_below (blk_below BKg1.out (by repeat first | exact Below.refl _ _ | apply ba_ | apply bn_ | apply bd_)) hb); have NEg1_g2 := am_ (show g1 ≠ g2 from by rw [hg]; exact Nat.ne_of_lt (blk_lt (blk_below BKg1.out (by repeat first | exact Below.refl _ _ | apply ba_ | apply bn_ | apply bd_)))); have NEg2_g1 := am_ (Ne.symm NEg1_g2.out); have BKg2 := am_ hbox; have GEg2 := am_ (show w.heap.size ≤ g2 from by rw [hg]; exact below_size (by repeat first | (with_reducible first | exact HB.out | apply ba_ | apply bn_ | apply bd_ | refine below_set ?_ GEg1.out) | exact HB.out)); clear HB BKg1; have HB := n_; clear n_ hb hbox hg; have BKg1 := m_g1; clear m_g1)
      )
    refine (dayCountS_c x y c _).mono ?_
    rw [HDC.out]
    rintro e w1_ ⟨rfl, hb⟩
    replace BKg1 := am_ (blk_below (blk_below BKg1.out (by repeat first | exact Below.refl _ _ | apply ba_ | apply bn_ | apply bd_)) hb); replace BKg2 := am_ (blk_below (blk_below BKg2.out (by repeat first | exact Below.refl _ _ | apply ba_ | apply bn_ | apply bd_)) hb); replace HB := am_ (below_step (by repeat first | (with_reducible first | exact HB.out | apply ba_ | apply bn_ | apply bd_) | exact HB.out) hb); clear hb
    go_wp2_with ((((with_reducible refine gate_dst (N := 10) rfl ?_); refine box_event ?hg (N := 10) ?hd (cs := #[.int .i64 0, .int .i64 0]) (t := 24) ?hr ?_; (case hd => rfl); (case hg => rfl); (case hr => first | (go_simp; done) | (go_simp; rfl))); intro g3 hg w_g3 hbox hb; have n_ := am_ (below_step (by repeat first | (with_reducible first | exact HB.out | apply ba_ | apply bn_ | apply bd_ | refine below_set ?_ GEg1.out | refine below_set ?_ GEg2.out) | exact HB.out) hb); have m_g1 := am_ (blk_below (blk_below BKg1.out (by repeat first | exact Below.refl _ _ | apply ba_ | apply bn_ | apply bd_)) hb); have NEg1_g3 := am_ (show g1 ≠ g3 from by rw [hg]; exact Nat.ne_of_lt (blk_lt (blk_below BKg1.out (by repeat first | exact Below.refl _ _ | apply ba_ | apply bn_ | apply bd_)))); have NEg3_g1 := am_ (Ne.symm NEg1_g3.out); have m_g2 := am_ (blk_below (blk_below BKg2.out (by repeat first | exact Below.refl _ _ | apply ba_ | apply bn_ | apply bd_)) hb); have NEg2_g3 := am_ (show g2 ≠ g3 from by rw [hg]; exact Nat.ne_of_lt (blk_lt (blk_below BKg2.out (by repeat first | exact Below.refl _ _ | apply ba_ | apply bn_ | apply bd_)))); have NEg3_g2 := am_ (Ne.symm NEg2_g3.out); have BKg3 := am_ hbox; have GEg3 := am_ (show w.heap.size ≤ g3 from by rw [hg]; exact below_size (by repeat first | (with_reducible first | exact HB.out | apply ba_ | apply bn_ | apply bd_ | refine below_set ?_ GEg1.out | refine below_set ?_ GEg2.out) | exact HB.out)); clear HB BKg1 BKg2; have HB := n_; clear n_ hb hbox hg; have BKg1 := m_g1; clear m_g1; have BKg2 := m_g2; clear m_g2); have yg1_0 : w_g3.cell? ⟨g1, 0, none⟩ = some (.int .i64 n) := (blk_cell BKg1.out 0).trans rfl; have fg1_0 := blk_frozen BKg1.out 0; have yg1_1 : w_g3.cell? ⟨g1, 1, none⟩ = some (.int .i64 d) := (blk_cell BKg1.out 1).trans rfl; have fg1_1 := blk_frozen BKg1.out 1; have yg3_0 : w_g3.cell? ⟨g3, 0, none⟩ = some (.int .i64 0) := (blk_cell BKg3.out 0).trans rfl; have fg3_0 := blk_frozen BKg3.out 0; have yg3_1 : w_g3.cell? ⟨g3, 1, none⟩ = some (.int .i64 0) := (blk_cell BKg3.out 1).trans rfl; have fg3_1 := blk_frozen BKg3.out 1; have hn1_ := NEg1_g3.out; have hn2_ := NEg3_g1.out)
    refine (multS_c n d n1 d1 _).mono ?_
    rw [HFR.out]
    rintro e v1_ ⟨rfl, hb⟩
    have m_g2 := am_ (blk_below (g := g2) (o := .cells #[.int .i64 0, .int .i64 0] 24 (0, 0)) (by repeat (with_reducible first | exact BKg2.out | refine kn_ ?_ _ | refine kd_ ?_ | refine ka_ ?_ _ | refine kf_ ?_ NEg2_g3.out _)) hb)
    have n_ := am_ (below_step (by repeat first | (with_reducible first | exact HB.out | apply ba_ | apply bn_ | apply bd_ | refine below_set ?_ GEg3.out) | exact HB.out) hb)
    clear HB hb BKg2 BKg1 BKg3
    have HB := n_
    clear n_
    have BKg2 := m_g2
    clear m_g2
    have yg2_0 : v1_.cell? ⟨g2, 0, none⟩ = some (.int .i64 0) := (blk_cell BKg2.out 0).trans rfl; have fg2_0 := blk_frozen BKg2.out 0; have yg2_1 : v1_.cell? ⟨g2, 1, none⟩ = some (.int .i64 0) := (blk_cell BKg2.out 1).trans rfl; have fg2_1 := blk_frozen BKg2.out 1
    go_wp2
    refine bodyPost_ret (results_ct rfl _ _ g2 24 #[.int .i64 n2, .int .i64 d2] (0, 0) _ rfl (by (with_reducible repeat first | refine kn_ ?_ _ | refine kd_ ?_ | refine ka_ ?_ _); refine blk_put (cs := #[.int .i64 n2, .int .i64 0]) ?_ 1 _ rfl; (with_reducible repeat first | refine kn_ ?_ _ | refine kd_ ?_ | refine ka_ ?_ _); refine blk_put (cs := #[.int .i64 0, .int .i64 0]) ?_ 0 _ rfl; (with_reducible repeat first | refine kn_ ?_ _ | refine kd_ ?_ | refine ka_ ?_ _); exact BKg2.out) Try.underlying24 rfl (by kernel_rfl)) rfl ?_
    exact ⟨rfl, (by repeat first | (with_reducible first | exact HB.out | apply ba_ | apply bn_ | apply bd_ | refine below_set ?_ GEg1.out | refine below_set ?_ GEg2.out | refine below_set ?_ GEg3.out) | exact HB.out)⟩
set_option maxHeartbeats 8000000 in
set_option maxRecDepth 100000 in
theorem discS_c (n d x y c : Int) (w : World) :
    Calls Try.prog 14 #[.agg #[.int .i64 n, .int .i64 d], .int .i64 x, .int .i64 y, .int .i64 c] w fun e w' => e = .returned (.tuple #[.agg #[.int .i64 (discA n d x y c).1, .int .i64 (discA n d x y c).2.1], .bool (discA n d x y c).2.2]) ∧ Below w.heap.size w w' := by
  have HB := am_ (Below.refl w.heap.size w)
  obtain ⟨kr, hr⟩ := roundsOf (specRate_ev n d)
  have g0_ := hr
  by_cases c0_ : okF n d ∧ 0 ≤ n
  · rw [decide_eq_true c0_] at g0_
    have G1 := am_ g0_
    clear g0_
    obtain ⟨GR, hGR⟩ : ∃ F, F = growthA n d x y c := ⟨_, rfl⟩
    have HGR := am_ hGR.symm
    obtain ⟨n1, d1, ok⟩ := GR
    cases ok with
    | false =>
      have hfin : discA n d x y c = (0, 0, false) := by unfold discA; rw [if_pos c0_, ← hGR]; rfl
      rw [hfin]
      clear hfin hGR
      go_enter Try.func14, Try.ntmps14
      go_wp2_with (first
        | (((with_reducible refine gate_dst (N := 4) rfl ?_); refine box_event ?hg (N := 4) ?hd (cs := #[.int .i64 n,.int .i64 d]) (t := 24) ?hr ?_; (case hd => rfl); (case hg => rfl); (case hr => first | (go_simp; done) | (go_simp; rfl))); intro g1 hg w_g1 hbox hb; have n_ := am_ (below_step (by repeat first | (with_reducible first | exact HB.out | apply ba_ | apply bn_ | apply bd_) | exact HB.out) hb); have BKg1 := am_ hbox; have GEg1 := am_ (show w.heap.size ≤ g1 from by rw [hg]; exact below_size (by repeat first | (with_reducible first | exact HB.out | apply ba_ | apply bn_ | apply bd_) | exact HB.out)); clear HB ; have HB := n_; clear n_ hb hbox hg)
        | ((((with_reducible refine gate_dst (N := 8) rfl ?_); refine box_event ?hg (N := 8) ?hd (cs := #[.int .i64 0,.int .i64 0]) (t := 24) ?hr ?_; (case hd => rfl); (case hg => rfl); (case hr => first | (go_simp; done) | (go_simp; rfl))); intro g2 hg w_g2 hbox hb; have n_ := am_ (below_step (by repeat first | (with_reducible first | exact HB.out | apply ba_ | apply bn_ | apply bd_ | refine below_set ?_ GEg1.out) | exact HB.out) hb); have m_g1 := am_ (blk_below (blk_below BKg1.out (by repeat first | exact Below.refl _ _ | apply ba_ | apply bn_ | apply bd_)) hb); have NEg1_g2 := am_ (show g1 ≠ g2 from by rw [hg]; exact Nat.ne_of_lt (blk_lt (blk_below BKg1.out (by repeat first | exact Below.refl _ _ | apply ba_ | apply bn_ | apply bd_)))); have NEg2_g1 := am_ (Ne.symm NEg1_g2.out); have BKg2 := am_ hbox; have GEg2 := am_ (show w.heap.size ≤ g2 from by rw [hg]; exact below_size (by repeat first | (with_reducible first | exact HB.out | apply ba_ | apply bn_ | apply bd_ | refine below_set ?_ GEg1.out) | exact HB.out)); clear HB BKg1; have HB := n_; clear n_ hb hbox hg; have BKg1 := m_g1; clear m_g1); have yg1_0 : w_g2.cell? ⟨g1, 0, none⟩ = some (.int .i64 n) := (blk_cell BKg1.out 0).trans rfl; have fg1_0 := blk_frozen BKg1.out 0; have yg1_1 : w_g2.cell? ⟨g1, 1, none⟩ = some (.int .i64 d) := (blk_cell BKg1.out 1).trans rfl; have fg1_1 := blk_frozen BKg1.out 1)
        )
      clear yg1_0 fg1_0 yg1_1 fg1_1
      refine (spec_l15Rate.calls kr n d true _ G1.out).mono ?_
      rintro e w1_ ⟨rfl, hb⟩
      replace BKg1 := am_ (blk_below (blk_below BKg1.out (by repeat first | exact Below.refl _ _ | apply ba_ | apply bn_ | apply bd_)) hb); replace BKg2 := am_ (blk_below (blk_below BKg2.out (by repeat first | exact Below.refl _ _ | apply ba_ | apply bn_ | apply bd_)) hb); replace HB := am_ (below_step (by repeat first | (with_reducible first | exact HB.out | apply ba_ | apply bn_ | apply bd_) | exact HB.out) hb); clear hb
      have yg1_0 : w1_.cell? ⟨g1, 0, none⟩ = some (.int .i64 n) := (blk_cell BKg1.out 0).trans rfl; have fg1_0 := blk_frozen BKg1.out 0; have yg1_1 : w1_.cell? ⟨g1, 1, none⟩ = some (.int .i64 d) := (blk_cell BKg1.out 1).trans rfl; have fg1_1 := blk_frozen BKg1.out 1
      go_wp2_with fail
      clear yg1_0 fg1_0 yg1_1 fg1_1
      refine (growthS_c n d x y c _).mono ?_
      rw [HGR.out]
      rintro e w1_ ⟨rfl, hb⟩
      replace BKg1 := am_ (blk_below (blk_below BKg1.out (by repeat first | exact Below.refl _ _ | apply ba_ | apply bn_ | apply bd_)) hb); replace BKg2 := am_ (blk_below (blk_below BKg2.out (by repeat first | exact Below.refl _ _ | apply ba_ | apply bn_ | apply bd_)) hb); replace HB := am_ (below_step (by repeat first | (with_reducible first | exact HB.out | apply ba_ | apply bn_ | apply bd_) | exact HB.out) hb); clear hb
      go_wp2_with ((((with_reducible refine gate_dst (N := 10) rfl ?_); refine box_event ?hg (N := 10) ?hd (cs := #[.int .i64 0, .int .i64 0]) (t := 24) ?hr ?_; (case hd => rfl); (case hg => rfl); (case hr => first | (go_simp; done) | (go_simp; rfl))); intro g3 hg w_g3 hbox hb; have n_ := am_ (below_step (by repeat first | (with_reducible first | exact HB.out | apply ba_ | apply bn_ | apply bd_ | refine below_set ?_ GEg1.out | refine below_set ?_ GEg2.out) | exact HB.out) hb); have m_g1 := am_ (blk_below (blk_below BKg1.out (by repeat first | exact Below.refl _ _ | apply ba_ | apply bn_ | apply bd_)) hb); have NEg1_g3 := am_ (show g1 ≠ g3 from by rw [hg]; exact Nat.ne_of_lt (blk_lt (blk_below BKg1.out (by repeat first | exact Below.refl _ _ | apply ba_ | apply bn_ | apply bd_)))); have NEg3_g1 := am_ (Ne.symm NEg1_g3.out); have m_g2 := am_ (blk_below (blk_below BKg2.out (by repeat first | exact Below.refl _ _ | apply ba_ | apply bn_ | apply bd_)) hb); have NEg2_g3 := am_ (show g2 ≠ g3 from by rw [hg]; exact Nat.ne_of_lt (blk_lt (blk_below BKg2.out (by repeat first | exact Below.refl _ _ | apply ba_ | apply bn_ | apply bd_)))); have NEg3_g2 := am_ (Ne.symm NEg2_g3.out); have BKg3 := am_ hbox; have GEg3 := am_ (show w.heap.size ≤ g3 from by rw [hg]; exact below_size (by repeat first | (with_reducible first | exact HB.out | apply ba_ | apply bn_ | apply bd_ | refine below_set ?_ GEg1.out | refine below_set ?_ GEg2.out) | exact HB.out)); clear HB BKg1 BKg2; have HB := n_; clear n_ hb hbox hg; have BKg1 := m_g1; clear m_g1; have BKg2 := m_g2; clear m_g2); have yg2_0 : w_g3.cell? ⟨g2, 0, none⟩ = some (.int .i64 0) := (blk_cell BKg2.out 0).trans rfl; have fg2_0 := blk_frozen BKg2.out 0; have yg2_1 : w_g3.cell? ⟨g2, 1, none⟩ = some (.int .i64 0) := (blk_cell BKg2.out 1).trans rfl; have fg2_1 := blk_frozen BKg2.out 1; have yg3_0 : w_g3.cell? ⟨g3, 0, none⟩ = some (.int .i64 0) := (blk_cell BKg3.out 0).trans rfl; have fg3_0 := blk_frozen BKg3.out 0; have yg3_1 : w_g3.cell? ⟨g3, 1, none⟩ = some (.int .i64 0) := (blk_cell BKg3.out 1).trans rfl; have fg3_1 := blk_frozen BKg3.out 1; have hn1_ := NEg2_g3.out; have hn2_ := NEg3_g2.out)
      refine bodyPost_ret (results_ct rfl _ _ g2 24 #[.int .i64 0, .int .i64 0] (0, 0) _ rfl (by (with_reducible repeat first | refine kn_ ?_ _ | refine kd_ ?_ | refine ka_ ?_ _); refine blk_put (cs := #[.int .i64 0, .int .i64 0]) ?_ 1 _ rfl; (with_reducible repeat first | refine kn_ ?_ _ | refine kd_ ?_ | refine ka_ ?_ _); refine blk_put (cs := #[.int .i64 0, .int .i64 0]) ?_ 0 _ rfl; (with_reducible repeat first | refine kn_ ?_ _ | refine kd_ ?_ | refine ka_ ?_ _ | refine kf_ ?_ NEg2_g3.out _); exact BKg2.out) Try.underlying24 rfl (by kernel_rfl)) rfl ?_
      exact ⟨rfl, (by repeat first | (with_reducible first | exact HB.out | apply ba_ | apply bn_ | apply bd_ | refine below_set ?_ GEg1.out | refine below_set ?_ GEg2.out | refine below_set ?_ GEg3.out) | exact HB.out)⟩
    | true =>
      have hfin : discA n d x y c = fracA d1 (d1 + n1) := by unfold discA; rw [if_pos c0_, ← hGR]; rfl
      rw [hfin]
      have hgo := growth_ok n d x y c c0_.2 (by rw [← hGR])
      rw [← hGR] at hgo
      obtain ⟨⟨hd1, hn1, _⟩, hn0⟩ := hgo
      simp only at hd1 hn1 hn0
      obtain ⟨FR, hFR⟩ : ∃ F, F = fracA d1 (d1 + n1) := ⟨_, rfl⟩
      have HFR := am_ hFR.symm
      rw [← hFR]
      obtain ⟨n2, d2, o2⟩ := FR
      clear hFR
      obtain ⟨k, hk⟩ := roundsOf (specMake_ev d1 (d1 + n1) (by omega) (by omega) (by omega))
      rw [HFR.out] at hk
      rw [Int.add_comm d1 n1] at hk
      have HK := am_ hk
      clear hk HFR
      clear hfin hGR
      go_enter Try.func14, Try.ntmps14
      go_wp2_with (first
        | (((with_reducible refine gate_dst (N := 4) rfl ?_); refine box_event ?hg (N := 4) ?hd (cs := #[.int .i64 n,.int .i64 d]) (t := 24) ?hr ?_; (case hd => rfl); (case hg => rfl); (case hr => first | (go_simp; done) | (go_simp; rfl))); intro g1 hg w_g1 hbox hb; have n_ := am_ (below_step (by repeat first | (with_reducible first | exact HB.out | apply ba_ | apply bn_ | apply bd_) | exact HB.out) hb); have BKg1 := am_ hbox; have GEg1 := am_ (show w.heap.size ≤ g1 from by rw [hg]; exact below_size (by repeat first | (with_reducible first | exact HB.out | apply ba_ | apply bn_ | apply bd_) | exact HB.out)); clear HB ; have HB := n_; clear n_ hb hbox hg)
        | ((((with_reducible refine gate_dst (N := 8) rfl ?_); refine box_event ?hg (N := 8) ?hd (cs := #[.int .i64 0,.int .i64 0]) (t := 24) ?hr ?_; (case hd => rfl); (case hg => rfl); (case hr => first | (go_simp; done) | (go_simp; rfl))); intro g2 hg w_g2 hbox hb; have n_ := am_ (below_step (by repeat first | (with_reducible first | exact HB.out | apply ba_ | apply bn_ | apply bd_ | refine below_set ?_ GEg1.out) | exact HB.out) hb); have m_g1 := am_ (blk_below (blk_below BKg1.out (by repeat first | exact Below.refl _ _ | apply ba_ | apply bn_ | apply bd_)) hb); have NEg1_g2 := am_ (show g1 ≠ g2 from by rw [hg]; exact Nat.ne_of_lt (blk_lt (blk_below BKg1.out (by repeat first | exact Below.refl _ _ | apply ba_ | apply bn_ | apply bd_)))); have NEg2_g1 := am_ (Ne.symm NEg1_g2.out); have BKg2 := am_ hbox; have GEg2 := am_ (show w.heap.size ≤ g2 from by rw [hg]; exact below_size (by repeat first | (with_reducible first | exact HB.out | apply ba_ | apply bn_ | apply bd_ | refine below_set ?_ GEg1.out) | exact HB.out)); clear HB BKg1; have HB := n_; clear n_ hb hbox hg; have BKg1 := m_g1; clear m_g1); have yg1_0 : w_g2.cell? ⟨g1, 0, none⟩ = some (.int .i64 n) := (blk_cell BKg1.out 0).trans rfl; have fg1_0 := blk_frozen BKg1.out 0; have yg1_1 : w_g2.cell? ⟨g1, 1, none⟩ = some (.int .i64 d) := (blk_cell BKg1.out 1).trans rfl; have fg1_1 := blk_frozen BKg1.out 1)
        )
      clear yg1_0 fg1_0 yg1_1 fg1_1
      refine (spec_l15Rate.calls kr n d true _ G1.out).mono ?_
      rintro e w1_ ⟨rfl, hb⟩
      replace BKg1 := am_ (blk_below (blk_below BKg1.out (by repeat first | exact Below.refl _ _ | apply ba_ | apply bn_ | apply bd_)) hb); replace BKg2 := am_ (blk_below (blk_below BKg2.out (by repeat first | exact Below.refl _ _ | apply ba_ | apply bn_ | apply bd_)) hb); replace HB := am_ (below_step (by repeat first | (with_reducible first | exact HB.out | apply ba_ | apply bn_ | apply bd_) | exact HB.out) hb); clear hb
      have yg1_0 : w1_.cell? ⟨g1, 0, none⟩ = some (.int .i64 n) := (blk_cell BKg1.out 0).trans rfl; have fg1_0 := blk_frozen BKg1.out 0; have yg1_1 : w1_.cell? ⟨g1, 1, none⟩ = some (.int .i64 d) := (blk_cell BKg1.out 1).trans rfl; have fg1_1 := blk_frozen BKg1.out 1
      go_wp2_with fail
      clear yg1_0 fg1_0 yg1_1 fg1_1
      refine (growthS_c n d x y c _).mono ?_
      rw [HGR.out]
      rintro e w1_ ⟨rfl, hb⟩
      replace BKg1 := am_ (blk_below (blk_below BKg1.out (by repeat first | exact Below.refl _ _ | apply ba_ | apply bn_ | apply bd_)) hb); replace BKg2 := am_ (blk_below (blk_below BKg2.out (by repeat first | exact Below.refl _ _ | apply ba_ | apply bn_ | apply bd_)) hb); replace HB := am_ (below_step (by repeat first | (with_reducible first | exact HB.out | apply ba_ | apply bn_ | apply bd_) | exact HB.out) hb); clear hb
      go_wp2_with ((((with_reducible refine gate_dst (N := 10) rfl ?_); refine box_event ?hg (N := 10) ?hd (cs := #[.int .i64 0, .int .i64 0]) (t := 24) ?hr ?_; (case hd => rfl); (case hg => rfl); (case hr => first | (go_simp; done) | (go_simp; rfl))); intro g3 hg w_g3 hbox hb; have n_ := am_ (below_step (by repeat first | (with_reducible first | exact HB.out | apply ba_ | apply bn_ | apply bd_ | refine below_set ?_ GEg1.out | refine below_set ?_ GEg2.out) | exact HB.out) hb); have m_g1 := am_ (blk_below (blk_below BKg1.out (by repeat first | exact Below.refl _ _ | apply ba_ | apply bn_ | apply bd_)) hb); have NEg1_g3 := am_ (show g1 ≠ g3 from by rw [hg]; exact Nat.ne_of_lt (blk_lt (blk_below BKg1.out (by repeat first | exact Below.refl _ _ | apply ba_ | apply bn_ | apply bd_)))); have NEg3_g1 := am_ (Ne.symm NEg1_g3.out); have m_g2 := am_ (blk_below (blk_below BKg2.out (by repeat first | exact Below.refl _ _ | apply ba_ | apply bn_ | apply bd_)) hb); have NEg2_g3 := am_ (show g2 ≠ g3 from by rw [hg]; exact Nat.ne_of_lt (blk_lt (blk_below BKg2.out (by repeat first | exact Below.refl _ _ | apply ba_ | apply bn_ | apply bd_)))); have NEg3_g2 := am_ (Ne.symm NEg2_g3.out); have BKg3 := am_ hbox; have GEg3 := am_ (show w.heap.size ≤ g3 from by rw [hg]; exact below_size (by repeat first | (with_reducible first | exact HB.out | apply ba_ | apply bn_ | apply bd_ | refine below_set ?_ GEg1.out | refine below_set ?_ GEg2.out) | exact HB.out)); clear HB BKg1 BKg2; have HB := n_; clear n_ hb hbox hg; have BKg1 := m_g1; clear m_g1; have BKg2 := m_g2; clear m_g2); have yg3_0 : w_g3.cell? ⟨g3, 0, none⟩ = some (.int .i64 0) := (blk_cell BKg3.out 0).trans rfl; have fg3_0 := blk_frozen BKg3.out 0; have yg3_1 : w_g3.cell? ⟨g3, 1, none⟩ = some (.int .i64 0) := (blk_cell BKg3.out 1).trans rfl; have fg3_1 := blk_frozen BKg3.out 1)
      refine (spec_MakeFraction.calls k _ _ n2 d2 o2 _ HK.out).mono ?_
      rintro e v2_ ⟨rfl, hb⟩
      have m_g2 := am_ (blk_below (g := g2) (o := .cells #[.int .i64 0, .int .i64 0] 24 (0, 0)) (by repeat (with_reducible first | exact BKg2.out | refine kn_ ?_ _ | refine kd_ ?_ | refine ka_ ?_ _ | refine kf_ ?_ NEg2_g3.out _)) hb)
      have n_ := am_ (below_step (by repeat first | (with_reducible first | exact HB.out | apply ba_ | apply bn_ | apply bd_ | refine below_set ?_ GEg3.out) | exact HB.out) hb)
      clear HB hb BKg2 BKg1 BKg3
      have HB := n_
      clear n_
      have BKg2 := m_g2
      clear m_g2
      have yg2_0 : v2_.cell? ⟨g2, 0, none⟩ = some (.int .i64 0) := (blk_cell BKg2.out 0).trans rfl; have fg2_0 := blk_frozen BKg2.out 0; have yg2_1 : v2_.cell? ⟨g2, 1, none⟩ = some (.int .i64 0) := (blk_cell BKg2.out 1).trans rfl; have fg2_1 := blk_frozen BKg2.out 1
      go_wp2
      refine bodyPost_ret (results_ct rfl _ _ g2 24 #[.int .i64 n2, .int .i64 d2] (0, 0) _ rfl (by (with_reducible repeat first | refine kn_ ?_ _ | refine kd_ ?_ | refine ka_ ?_ _); refine blk_put (cs := #[.int .i64 n2, .int .i64 0]) ?_ 1 _ rfl; (with_reducible repeat first | refine kn_ ?_ _ | refine kd_ ?_ | refine ka_ ?_ _); refine blk_put (cs := #[.int .i64 0, .int .i64 0]) ?_ 0 _ rfl; (with_reducible repeat first | refine kn_ ?_ _ | refine kd_ ?_ | refine ka_ ?_ _); exact BKg2.out) Try.underlying24 rfl (by kernel_rfl)) rfl ?_
      exact ⟨rfl, (by repeat first | (with_reducible first | exact HB.out | apply ba_ | apply bn_ | apply bd_ | refine below_set ?_ GEg1.out | refine below_set ?_ GEg2.out | refine below_set ?_ GEg3.out) | exact HB.out)⟩
  · rw [decide_eq_false c0_] at g0_
    have G1 := am_ g0_
    clear g0_
    have hfin : discA n d x y c = (0, 0, false) := by unfold discA; rw [if_neg (fun v => c0_ v)]
    rw [hfin]
    clear hfin
    go_enter Try.func14, Try.ntmps14
    go_wp2_with (first
      | (((with_reducible refine gate_dst (N := 4) rfl ?_); refine box_event ?hg (N := 4) ?hd (cs := #[.int .i64 n,.int .i64 d]) (t := 24) ?hr ?_; (case hd => rfl); (case hg => rfl); (case hr => first | (go_simp; done) | (go_simp; rfl))); intro g1 hg w_g1 hbox hb; have n_ := am_ (below_step (by repeat first | (with_reducible first | exact HB.out | apply ba_ | apply bn_ | apply bd_) | exact HB.out) hb); have BKg1 := am_ hbox; have GEg1 := am_ (show w.heap.size ≤ g1 from by rw [hg]; exact below_size (by repeat first | (with_reducible first | exact HB.out | apply ba_ | apply bn_ | apply bd_) | exact HB.out)); clear HB ; have HB := n_; clear n_ hb hbox hg)
      | ((((with_reducible refine gate_dst (N := 8) rfl ?_); refine box_event ?hg (N := 8) ?hd (cs := #[.int .i64 0,.int .i64 0]) (t := 24) ?hr ?_; (case hd => rfl); (case hg => rfl); (case hr => first | (go_simp; done) | (go_simp; rfl))); intro g2 hg w_g2 hbox hb; have n_ := am_ (below_step (by repeat first | (with_reducible first | exact HB.out | apply ba_ | apply bn_ | apply bd_ | refine below_set ?_ GEg1.out) | exact HB.out) hb); have m_g1 := am_ (blk_below (blk_below BKg1.out (by repeat first | exact Below.refl _ _ | apply ba_ | apply bn_ | apply bd_)) hb); have NEg1_g2 := am_ (show g1 ≠ g2 from by rw [hg]; exact Nat.ne_of_lt (blk_lt (blk_below BKg1.out (by repeat first | exact Below.refl _ _ | apply ba_ | apply bn_ | apply bd_)))); have NEg2_g1 := am_ (Ne.symm NEg1_g2.out); have BKg2 := am_ hbox; have GEg2 := am_ (show w.heap.size ≤ g2 from by rw [hg]; exact below_size (by repeat first | (with_reducible first | exact HB.out | apply ba_ | apply bn_ | apply bd_ | refine below_set ?_ GEg1.out) | exact HB.out)); clear HB BKg1; have HB := n_; clear n_ hb hbox hg; have BKg1 := m_g1; clear m_g1); have yg1_0 : w_g2.cell? ⟨g1, 0, none⟩ = some (.int .i64 n) := (blk_cell BKg1.out 0).trans rfl; have fg1_0 := blk_frozen BKg1.out 0; have yg1_1 : w_g2.cell? ⟨g1, 1, none⟩ = some (.int .i64 d) := (blk_cell BKg1.out 1).trans rfl; have fg1_1 := blk_frozen BKg1.out 1)
      )
    clear yg1_0 fg1_0 yg1_1 fg1_1
    refine (spec_l15Rate.calls kr n d false _ G1.out).mono ?_
    rintro e w1_ ⟨rfl, hb⟩
    replace BKg1 := am_ (blk_below (blk_below BKg1.out (by repeat first | exact Below.refl _ _ | apply ba_ | apply bn_ | apply bd_)) hb); replace BKg2 := am_ (blk_below (blk_below BKg2.out (by repeat first | exact Below.refl _ _ | apply ba_ | apply bn_ | apply bd_)) hb); replace HB := am_ (below_step (by repeat first | (with_reducible first | exact HB.out | apply ba_ | apply bn_ | apply bd_) | exact HB.out) hb); clear hb
    have yg2_0 : w1_.cell? ⟨g2, 0, none⟩ = some (.int .i64 0) := (blk_cell BKg2.out 0).trans rfl; have fg2_0 := blk_frozen BKg2.out 0; have yg2_1 : w1_.cell? ⟨g2, 1, none⟩ = some (.int .i64 0) := (blk_cell BKg2.out 1).trans rfl; have fg2_1 := blk_frozen BKg2.out 1
    go_wp2
    refine bodyPost_ret (results_ct rfl _ _ g2 24 #[.int .i64 0, .int .i64 0] (0, 0) _ rfl (by (with_reducible repeat first | refine kn_ ?_ _ | refine kd_ ?_ | refine ka_ ?_ _); refine blk_put (cs := #[.int .i64 0, .int .i64 0]) ?_ 1 _ rfl; (with_reducible repeat first | refine kn_ ?_ _ | refine kd_ ?_ | refine ka_ ?_ _); refine blk_put (cs := #[.int .i64 0, .int .i64 0]) ?_ 0 _ rfl; (with_reducible repeat first | refine kn_ ?_ _ | refine kd_ ?_ | refine ka_ ?_ _); exact BKg2.out) Try.underlying24 rfl (by kernel_rfl)) rfl ?_
    exact ⟨rfl, (by repeat first | (with_reducible first | exact HB.out | apply ba_ | apply bn_ | apply bd_ | refine below_set ?_ GEg1.out | refine below_set ?_ GEg2.out) | exact HB.out)⟩
set_option maxHeartbeats 8000000 in
set_option maxRecDepth 100000 in
theorem fracI_c (a b : Int) (ha : a.natAbs ≤ 4000000000000000000) (hb : b.natAbs ≤ 4000000000000000000) (h0 : b ≠ 0) (w : World) :
    Calls Try.prog 56 #[.int .i64 a, .int .i64 b] w fun e w' => e = .returned (.tuple #[.agg #[.int .i64 (fracA a b).1, .int .i64 (fracA a b).2.1], .bool (fracA a b).2.2]) ∧ Below w.heap.size w w' := by
  have HB := am_ (Below.refl w.heap.size w)
  obtain ⟨kd, hkd⟩ := roundsOf (implDiv_ev a b (by omega) (by omega))
  obtain ⟨g, n, d, hg, hgb, hnb, hdb, hneg, hpos, hfin⟩ := frac_parts a b ha hb h0
  rw [hg] at hkd
  rw [hfin]
  obtain ⟨kf, hkf⟩ := roundsOf (implIsF_ev n d)
  have HKD := am_ hkd
  clear hkd hg hfin ha hb h0
  by_cases hok : okF n d
  · rw [decide_eq_true hok] at hkf
    rw [if_pos hok]
    have HKF := am_ hkf
    clear hkf hok
    by_cases cb : b < 0
    · have cbb : decide (b < 0) = true := decide_eq_true cb
      obtain ⟨hq1, hq2⟩ := hneg cb
      have HQ1 := am_ hq1
      have HQ2 := am_ hq2
      clear hneg hpos cb hq1 hq2
      go_enter Try.func56, Try.ntmps56
      go_wp2_with (((with_reducible refine gate_dst (N := 4) rfl ?_); refine box_event ?hg (N := 4) ?hd (cs := #[.int .i64 0, .int .i64 0]) (t := 24) ?hr ?_; (case hd => rfl); (case hg => rfl); (case hr => first | (go_simp; done) | (go_simp; rfl))); intro g1 hg w_g1 hbox hb; have n_ := am_ (below_step (by repeat first | (with_reducible first | exact HB.out | apply ba_ | apply bn_ | apply bd_) | exact HB.out) hb); have BKg1 := am_ hbox; have GEg1 := am_ (show w.heap.size ≤ g1 from by rw [hg]; exact below_size (by repeat first | (with_reducible first | exact HB.out | apply ba_ | apply bn_ | apply bd_) | exact HB.out)); clear HB ; have HB := n_; clear n_ hb hbox hg)
      refine (impl_divisor.calls kd a b g _ HKD.out).mono ?_
      rintro e w1 ⟨rfl, hb⟩
      replace BKg1 := am_ (blk_below (blk_below BKg1.out (by repeat first | exact Below.refl _ _ | apply ba_ | apply bn_ | apply bd_)) hb); replace HB := am_ (below_step (by repeat first | (with_reducible first | exact HB.out | apply ba_ | apply bn_ | apply bd_) | exact HB.out) hb); clear hb
      have hgz : ¬ (-g = 0) := by omega
      have hgz2 : ((-g : Int) == 0) = false := by rw [beq_eq_false_iff_ne]; omega
      go_upto_region 4 with (fail)
      have hq1 := HQ1.out
      have hq2 := HQ2.out
      go_cut [7] (fun v7 wx => ∃ g2, v7 = .pointer (some ⟨g2, 0, none⟩) ∧ Aside0 (w.heap.size ≤ g2) ∧ Aside0 (g1 ≠ g2) ∧ Aside0 (wx.heap[g1]? = some (.cells #[.int .i64 0, .int .i64 0] 24 (0, 0))) ∧ Aside0 (wx.heap[g2]? = some (.cells #[.int .i64 n, .int .i64 d] 24 (0, 0))) ∧ Aside0 (Below w.heap.size w wx))
      case first =>
        go_region
        all_goals (go_wp2_with fail; go_meet; exact ⟨_, rfl, ⟨below_size (by repeat first | (with_reducible first | exact HB.out | apply ba_ | apply bn_ | apply bd_) | exact HB.out)⟩, ⟨Nat.ne_of_lt (blk_lt (by (with_reducible repeat first | refine kn_ ?_ _ | refine kd_ ?_ | refine ka_ ?_ _); exact BKg1.out))⟩, ⟨blk_alloc (by (with_reducible repeat first | refine kn_ ?_ _ | refine kd_ ?_ | refine ka_ ?_ _); exact BKg1.out) _⟩, ⟨by first | exact blk_new _ _ | exact kd_ (blk_new _ _)⟩, ⟨(by repeat first | (with_reducible first | exact HB.out | apply ba_ | apply bn_ | apply bd_) | exact HB.out)⟩⟩)
      case rest =>
        clear BKg1 HB hq1 hq2
        obtain ⟨g2, rfl, GEg2, NEg1_g2, BKg1, BKg2, HB⟩ := hcut
        have yg2_0 : wc.cell? ⟨g2, 0, none⟩ = some (.int .i64 n) := (blk_cell BKg2.out 0).trans rfl; have fg2_0 := blk_frozen BKg2.out 0; have yg2_1 : wc.cell? ⟨g2, 1, none⟩ = some (.int .i64 d) := (blk_cell BKg2.out 1).trans rfl; have fg2_1 := blk_frozen BKg2.out 1
        go_wp2_with fail
        clear yg2_0 fg2_0 yg2_1 fg2_1
        refine (impl_isFraction.calls kf n d true _ HKF.out).mono ?_
        rintro e w2 ⟨rfl, hb⟩
        replace BKg1 := am_ (blk_below (blk_below BKg1.out (by repeat first | exact Below.refl _ _ | apply ba_ | apply bn_ | apply bd_)) hb); replace BKg2 := am_ (blk_below (blk_below BKg2.out (by repeat first | exact Below.refl _ _ | apply ba_ | apply bn_ | apply bd_)) hb); replace HB := am_ (below_step (by repeat first | (with_reducible first | exact HB.out | apply ba_ | apply bn_ | apply bd_) | exact HB.out) hb); clear hb
        have yg1_0 : w2.cell? ⟨g1, 0, none⟩ = some (.int .i64 0) := (blk_cell BKg1.out 0).trans rfl; have fg1_0 := blk_frozen BKg1.out 0; have yg1_1 : w2.cell? ⟨g1, 1, none⟩ = some (.int .i64 0) := (blk_cell BKg1.out 1).trans rfl; have fg1_1 := blk_frozen BKg1.out 1
        have yg2_0 : w2.cell? ⟨g2, 0, none⟩ = some (.int .i64 n) := (blk_cell BKg2.out 0).trans rfl; have fg2_0 := blk_frozen BKg2.out 0; have yg2_1 : w2.cell? ⟨g2, 1, none⟩ = some (.int .i64 d) := (blk_cell BKg2.out 1).trans rfl; have fg2_1 := blk_frozen BKg2.out 1
        have hn1_ := NEg1_g2.out
        have hn2_ := Ne.symm hn1_
        go_wp2
        refine bodyPost_ret (results_ct rfl _ _ g1 24 #[.int .i64 n, .int .i64 d] (0, 0) _ rfl (by (with_reducible repeat first | refine kn_ ?_ _ | refine kd_ ?_ | refine ka_ ?_ _); refine blk_put (cs := #[.int .i64 n, .int .i64 0]) ?_ 1 _ rfl; (with_reducible repeat first | refine kn_ ?_ _ | refine kd_ ?_ | refine ka_ ?_ _); refine blk_put (cs := #[.int .i64 0, .int .i64 0]) ?_ 0 _ rfl; (with_reducible repeat first | refine kn_ ?_ _ | refine kd_ ?_ | refine ka_ ?_ _); exact BKg1.out) Try.underlying24 rfl (by kernel_rfl)) rfl ?_
        exact ⟨rfl, (by repeat first | (with_reducible first | exact HB.out | apply ba_ | apply bn_ | apply bd_ | refine below_set ?_ GEg1.out) | exact HB.out)⟩
    · have cbb : decide (b < 0) = false := decide_eq_false cb
      obtain ⟨hq1, hq2⟩ := hpos cb
      have HQ1 := am_ hq1
      have HQ2 := am_ hq2
      clear hneg hpos cb hq1 hq2
      go_enter Try.func56, Try.ntmps56
      go_wp2_with (((with_reducible refine gate_dst (N := 4) rfl ?_); refine box_event ?hg (N := 4) ?hd (cs := #[.int .i64 0, .int .i64 0]) (t := 24) ?hr ?_; (case hd => rfl); (case hg => rfl); (case hr => first | (go_simp; done) | (go_simp; rfl))); intro g1 hg w_g1 hbox hb; have n_ := am_ (below_step (by repeat first | (with_reducible first | exact HB.out | apply ba_ | apply bn_ | apply bd_) | exact HB.out) hb); have BKg1 := am_ hbox; have GEg1 := am_ (show w.heap.size ≤ g1 from by rw [hg]; exact below_size (by repeat first | (with_reducible first | exact HB.out | apply ba_ | apply bn_ | apply bd_) | exact HB.out)); clear HB ; have HB := n_; clear n_ hb hbox hg)
      refine (impl_divisor.calls kd a b g _ HKD.out).mono ?_
      rintro e w1 ⟨rfl, hb⟩
      replace BKg1 := am_ (blk_below (blk_below BKg1.out (by repeat first | exact Below.refl _ _ | apply ba_ | apply bn_ | apply bd_)) hb); replace HB := am_ (below_step (by repeat first | (with_reducible first | exact HB.out | apply ba_ | apply bn_ | apply bd_) | exact HB.out) hb); clear hb
      have hgz : ¬ (g = 0) := by omega
      have hgz2 : ((g : Int) == 0) = false := by rw [beq_eq_false_iff_ne]; omega
      go_upto_region 4 with (fail)
      have hq1 := HQ1.out
      have hq2 := HQ2.out
      go_cut [7] (fun v7 wx => ∃ g2, v7 = .pointer (some ⟨g2, 0, none⟩) ∧ Aside0 (w.heap.size ≤ g2) ∧ Aside0 (g1 ≠ g2) ∧ Aside0 (wx.heap[g1]? = some (.cells #[.int .i64 0, .int .i64 0] 24 (0, 0))) ∧ Aside0 (wx.heap[g2]? = some (.cells #[.int .i64 n, .int .i64 d] 24 (0, 0))) ∧ Aside0 (Below w.heap.size w wx))
      case first =>
        go_region
        all_goals (go_wp2_with fail; go_meet; exact ⟨_, rfl, ⟨below_size (by repeat first | (with_reducible first | exact HB.out | apply ba_ | apply bn_ | apply bd_) | exact HB.out)⟩, ⟨Nat.ne_of_lt (blk_lt (by (with_reducible repeat first | refine kn_ ?_ _ | refine kd_ ?_ | refine ka_ ?_ _); exact BKg1.out))⟩, ⟨blk_alloc (by (with_reducible repeat first | refine kn_ ?_ _ | refine kd_ ?_ | refine ka_ ?_ _); exact BKg1.out) _⟩, ⟨by first | exact blk_new _ _ | exact kd_ (blk_new _ _)⟩, ⟨(by repeat first | (with_reducible first | exact HB.out | apply ba_ | apply bn_ | apply bd_) | exact HB.out)⟩⟩)
      case rest =>
        clear BKg1 HB hq1 hq2
        obtain ⟨g2, rfl, GEg2, NEg1_g2, BKg1, BKg2, HB⟩ := hcut
        have yg2_0 : wc.cell? ⟨g2, 0, none⟩ = some (.int .i64 n) := (blk_cell BKg2.out 0).trans rfl; have fg2_0 := blk_frozen BKg2.out 0; have yg2_1 : wc.cell? ⟨g2, 1, none⟩ = some (.int .i64 d) := (blk_cell BKg2.out 1).trans rfl; have fg2_1 := blk_frozen BKg2.out 1
        go_wp2_with fail
        clear yg2_0 fg2_0 yg2_1 fg2_1
        refine (impl_isFraction.calls kf n d true _ HKF.out).mono ?_
        rintro e w2 ⟨rfl, hb⟩
        replace BKg1 := am_ (blk_below (blk_below BKg1.out (by repeat first | exact Below.refl _ _ | apply ba_ | apply bn_ | apply bd_)) hb); replace BKg2 := am_ (blk_below (blk_below BKg2.out (by repeat first | exact Below.refl _ _ | apply ba_ | apply bn_ | apply bd_)) hb); replace HB := am_ (below_step (by repeat first | (with_reducible first | exact HB.out | apply ba_ | apply bn_ | apply bd_) | exact HB.out) hb); clear hb
        have yg1_0 : w2.cell? ⟨g1, 0, none⟩ = some (.int .i64 0) := (blk_cell BKg1.out 0).trans rfl; have fg1_0 := blk_frozen BKg1.out 0; have yg1_1 : w2.cell? ⟨g1, 1, none⟩ = some (.int .i64 0) := (blk_cell BKg1.out 1).trans rfl; have fg1_1 := blk_frozen BKg1.out 1
        have yg2_0 : w2.cell? ⟨g2, 0, none⟩ = some (.int .i64 n) := (blk_cell BKg2.out 0).trans rfl; have fg2_0 := blk_frozen BKg2.out 0; have yg2_1 : w2.cell? ⟨g2, 1, none⟩ = some (.int .i64 d) := (blk_cell BKg2.out 1).trans rfl; have fg2_1 := blk_frozen BKg2.out 1
        have hn1_ := NEg1_g2.out
        have hn2_ := Ne.symm hn1_
        go_wp2
        refine bodyPost_ret (results_ct rfl _ _ g1 24 #[.int .i64 n, .int .i64 d] (0, 0) _ rfl (by (with_reducible repeat first | refine kn_ ?_ _ | refine kd_ ?_ | refine ka_ ?_ _); refine blk_put (cs := #[.int .i64 n, .int .i64 0]) ?_ 1 _ rfl; (with_reducible repeat first | refine kn_ ?_ _ | refine kd_ ?_ | refine ka_ ?_ _); refine blk_put (cs := #[.int .i64 0, .int .i64 0]) ?_ 0 _ rfl; (with_reducible repeat first | refine kn_ ?_ _ | refine kd_ ?_ | refine ka_ ?_ _); exact BKg1.out) Try.underlying24 rfl (by kernel_rfl)) rfl ?_
        exact ⟨rfl, (by repeat first | (with_reducible first | exact HB.out | apply ba_ | apply bn_ | apply bd_ | refine below_set ?_ GEg1.out) | exact HB.out)⟩
  · rw [decide_eq_false hok] at hkf
    rw [if_neg hok]
    have HKF := am_ hkf
    clear hkf hok
    by_cases cb : b < 0
    · have cbb : decide (b < 0) = true := decide_eq_true cb
      obtain ⟨hq1, hq2⟩ := hneg cb
      have HQ1 := am_ hq1
      have HQ2 := am_ hq2
      clear hneg hpos cb hq1 hq2
      go_enter Try.func56, Try.ntmps56
      go_wp2_with (((with_reducible refine gate_dst (N := 4) rfl ?_); refine box_event ?hg (N := 4) ?hd (cs := #[.int .i64 0, .int .i64 0]) (t := 24) ?hr ?_; (case hd => rfl); (case hg => rfl); (case hr => first | (go_simp; done) | (go_simp; rfl))); intro g1 hg w_g1 hbox hb; have n_ := am_ (below_step (by repeat first | (with_reducible first | exact HB.out | apply ba_ | apply bn_ | apply bd_) | exact HB.out) hb); have BKg1 := am_ hbox; have GEg1 := am_ (show w.heap.size ≤ g1 from by rw [hg]; exact below_size (by repeat first | (with_reducible first | exact HB.out | apply ba_ | apply bn_ | apply bd_) | exact HB.out)); clear HB ; have HB := n_; clear n_ hb hbox hg)
      refine (impl_divisor.calls kd a b g _ HKD.out).mono ?_
      rintro e w1 ⟨rfl, hb⟩
      replace BKg1 := am_ (blk_below (blk_below BKg1.out (by repeat first | exact Below.refl _ _ | apply ba_ | apply bn_ | apply bd_)) hb); replace HB := am_ (below_step (by repeat first | (with_reducible first | exact HB.out | apply ba_ | apply bn_ | apply bd_) | exact HB.out) hb); clear hb
      have hgz : ¬ (-g = 0) := by omega
      have hgz2 : ((-g : Int) == 0) = false := by rw [beq_eq_false_iff_ne]; omega
      go_upto_region 4 with (fail)
      have hq1 := HQ1.out
      have hq2 := HQ2.out
      go_cut [7] (fun v7 wx => ∃ g2, v7 = .pointer (some ⟨g2, 0, none⟩) ∧ Aside0 (w.heap.size ≤ g2) ∧ Aside0 (g1 ≠ g2) ∧ Aside0 (wx.heap[g1]? = some (.cells #[.int .i64 0, .int .i64 0] 24 (0, 0))) ∧ Aside0 (wx.heap[g2]? = some (.cells #[.int .i64 n, .int .i64 d] 24 (0, 0))) ∧ Aside0 (Below w.heap.size w wx))
      case first =>
        go_region
        all_goals (go_wp2_with fail; go_meet; exact ⟨_, rfl, ⟨below_size (by repeat first | (with_reducible first | exact HB.out | apply ba_ | apply bn_ | apply bd_) | exact HB.out)⟩, ⟨Nat.ne_of_lt (blk_lt (by (with_reducible repeat first | refine kn_ ?_ _ | refine kd_ ?_ | refine ka_ ?_ _); exact BKg1.out))⟩, ⟨blk_alloc (by (with_reducible repeat first | refine kn_ ?_ _ | refine kd_ ?_ | refine ka_ ?_ _); exact BKg1.out) _⟩, ⟨by first | exact blk_new _ _ | exact kd_ (blk_new _ _)⟩, ⟨(by repeat first | (with_reducible first | exact HB.out | apply ba_ | apply bn_ | apply bd_) | exact HB.out)⟩⟩)
      case rest =>
        clear BKg1 HB hq1 hq2
        obtain ⟨g2, rfl, GEg2, NEg1_g2, BKg1, BKg2, HB⟩ := hcut
        have yg2_0 : wc.cell? ⟨g2, 0, none⟩ = some (.int .i64 n) := (blk_cell BKg2.out 0).trans rfl; have fg2_0 := blk_frozen BKg2.out 0; have yg2_1 : wc.cell? ⟨g2, 1, none⟩ = some (.int .i64 d) := (blk_cell BKg2.out 1).trans rfl; have fg2_1 := blk_frozen BKg2.out 1
        go_wp2_with fail
        clear yg2_0 fg2_0 yg2_1 fg2_1
        refine (impl_isFraction.calls kf n d false _ HKF.out).mono ?_
        rintro e w2 ⟨rfl, hb⟩
        replace BKg1 := am_ (blk_below (blk_below BKg1.out (by repeat first | exact Below.refl _ _ | apply ba_ | apply bn_ | apply bd_)) hb); replace BKg2 := am_ (blk_below (blk_below BKg2.out (by repeat first | exact Below.refl _ _ | apply ba_ | apply bn_ | apply bd_)) hb); replace HB := am_ (below_step (by repeat first | (with_reducible first | exact HB.out | apply ba_ | apply bn_ | apply bd_) | exact HB.out) hb); clear hb
        have yg1_0 : w2.cell? ⟨g1, 0, none⟩ = some (.int .i64 0) := (blk_cell BKg1.out 0).trans rfl; have fg1_0 := blk_frozen BKg1.out 0; have yg1_1 : w2.cell? ⟨g1, 1, none⟩ = some (.int .i64 0) := (blk_cell BKg1.out 1).trans rfl; have fg1_1 := blk_frozen BKg1.out 1
        have yg2_0 : w2.cell? ⟨g2, 0, none⟩ = some (.int .i64 n) := (blk_cell BKg2.out 0).trans rfl; have fg2_0 := blk_frozen BKg2.out 0; have yg2_1 : w2.cell? ⟨g2, 1, none⟩ = some (.int .i64 d) := (blk_cell BKg2.out 1).trans rfl; have fg2_1 := blk_frozen BKg2.out 1
        have hn1_ := NEg1_g2.out
        have hn2_ := Ne.symm hn1_
        go_wp2
        refine bodyPost_ret (results_ct rfl _ _ g1 24 #[.int .i64 0, .int .i64 0] (0, 0) _ rfl (by (with_reducible repeat first | refine kn_ ?_ _ | refine kd_ ?_ | refine ka_ ?_ _); refine blk_put (cs := #[.int .i64 0, .int .i64 0]) ?_ 1 _ rfl; (with_reducible repeat first | refine kn_ ?_ _ | refine kd_ ?_ | refine ka_ ?_ _); refine blk_put (cs := #[.int .i64 0, .int .i64 0]) ?_ 0 _ rfl; (with_reducible repeat first | refine kn_ ?_ _ | refine kd_ ?_ | refine ka_ ?_ _); exact BKg1.out) Try.underlying24 rfl (by kernel_rfl)) rfl ?_
        exact ⟨rfl, (by repeat first | (with_reducible first | exact HB.out | apply ba_ | apply bn_ | apply bd_ | refine below_set ?_ GEg1.out) | exact HB.out)⟩
    · have cbb : decide (b < 0) = false := decide_eq_false cb
      obtain ⟨hq1, hq2⟩ := hpos cb
      have HQ1 := am_ hq1
      have HQ2 := am_ hq2
      clear hneg hpos cb hq1 hq2
      go_enter Try.func56, Try.ntmps56
      go_wp2_with (((with_reducible refine gate_dst (N := 4) rfl ?_); refine box_event ?hg (N := 4) ?hd (cs := #[.int .i64 0, .int .i64 0]) (t := 24) ?hr ?_; (case hd => rfl); (case hg => rfl); (case hr => first | (go_simp; done) | (go_simp; rfl))); intro g1 hg w_g1 hbox hb; have n_ := am_ (below_step (by repeat first | (with_reducible first | exact HB.out | apply ba_ | apply bn_ | apply bd_) | exact HB.out) hb); have BKg1 := am_ hbox; have GEg1 := am_ (show w.heap.size ≤ g1 from by rw [hg]; exact below_size (by repeat first | (with_reducible first | exact HB.out | apply ba_ | apply bn_ | apply bd_) | exact HB.out)); clear HB ; have HB := n_; clear n_ hb hbox hg)
      refine (impl_divisor.calls kd a b g _ HKD.out).mono ?_
      rintro e w1 ⟨rfl, hb⟩
      replace BKg1 := am_ (blk_below (blk_below BKg1.out (by repeat first | exact Below.refl _ _ | apply ba_ | apply bn_ | apply bd_)) hb); replace HB := am_ (below_step (by repeat first | (with_reducible first | exact HB.out | apply ba_ | apply bn_ | apply bd_) | exact HB.out) hb); clear hb
      have hgz : ¬ (g = 0) := by omega
      have hgz2 : ((g : Int) == 0) = false := by rw [beq_eq_false_iff_ne]; omega
      go_upto_region 4 with (fail)
      have hq1 := HQ1.out
      have hq2 := HQ2.out
      go_cut [7] (fun v7 wx => ∃ g2, v7 = .pointer (some ⟨g2, 0, none⟩) ∧ Aside0 (w.heap.size ≤ g2) ∧ Aside0 (g1 ≠ g2) ∧ Aside0 (wx.heap[g1]? = some (.cells #[.int .i64 0, .int .i64 0] 24 (0, 0))) ∧ Aside0 (wx.heap[g2]? = some (.cells #[.int .i64 n, .int .i64 d] 24 (0, 0))) ∧ Aside0 (Below w.heap.size w wx))
      case first =>
        go_region
        all_goals (go_wp2_with fail; go_meet; exact ⟨_, rfl, ⟨below_size (by repeat first | (with_reducible first | exact HB.out | apply ba_ | apply bn_ | apply bd_) | exact HB.out)⟩, ⟨Nat.ne_of_lt (blk_lt (by (with_reducible repeat first | refine kn_ ?_ _ | refine kd_ ?_ | refine ka_ ?_ _); exact BKg1.out))⟩, ⟨blk_alloc (by (with_reducible repeat first | refine kn_ ?_ _ | refine kd_ ?_ | refine ka_ ?_ _); exact BKg1.out) _⟩, ⟨by first | exact blk_new _ _ | exact kd_ (blk_new _ _)⟩, ⟨(by repeat first | (with_reducible first | exact HB.out | apply ba_ | apply bn_ | apply bd_) | exact HB.out)⟩⟩)
      case rest =>
        clear BKg1 HB hq1 hq2
        obtain ⟨g2, rfl, GEg2, NEg1_g2, BKg1, BKg2, HB⟩ := hcut
        have yg2_0 : wc.cell? ⟨g2, 0, none⟩ = some (.int .i64 n) := (blk_cell BKg2.out 0).trans rfl; have fg2_0 := blk_frozen BKg2.out 0; have yg2_1 : wc.cell? ⟨g2, 1, none⟩ = some (.int .i64 d) := (blk_cell BKg2.out 1).trans rfl; have fg2_1 := blk_frozen BKg2.out 1
        go_wp2_with fail
        clear yg2_0 fg2_0 yg2_1 fg2_1
        refine (impl_isFraction.calls kf n d false _ HKF.out).mono ?_
        rintro e w2 ⟨rfl, hb⟩
        replace BKg1 := am_ (blk_below (blk_below BKg1.out (by repeat first | exact Below.refl _ _ | apply ba_ | apply bn_ | apply bd_)) hb); replace BKg2 := am_ (blk_below (blk_below BKg2.out (by repeat first | exact Below.refl _ _ | apply ba_ | apply bn_ | apply bd_)) hb); replace HB := am_ (below_step (by repeat first | (with_reducible first | exact HB.out | apply ba_ | apply bn_ | apply bd_) | exact HB.out) hb); clear hb
        have yg1_0 : w2.cell? ⟨g1, 0, none⟩ = some (.int .i64 0) := (blk_cell BKg1.out 0).trans rfl; have fg1_0 := blk_frozen BKg1.out 0; have yg1_1 : w2.cell? ⟨g1, 1, none⟩ = some (.int .i64 0) := (blk_cell BKg1.out 1).trans rfl; have fg1_1 := blk_frozen BKg1.out 1
        have yg2_0 : w2.cell? ⟨g2, 0, none⟩ = some (.int .i64 n) := (blk_cell BKg2.out 0).trans rfl; have fg2_0 := blk_frozen BKg2.out 0; have yg2_1 : w2.cell? ⟨g2, 1, none⟩ = some (.int .i64 d) := (blk_cell BKg2.out 1).trans rfl; have fg2_1 := blk_frozen BKg2.out 1
        have hn1_ := NEg1_g2.out
        have hn2_ := Ne.symm hn1_
        go_wp2
        refine bodyPost_ret (results_ct rfl _ _ g1 24 #[.int .i64 0, .int .i64 0] (0, 0) _ rfl (by (with_reducible repeat first | refine kn_ ?_ _ | refine kd_ ?_ | refine ka_ ?_ _); refine blk_put (cs := #[.int .i64 0, .int .i64 0]) ?_ 1 _ rfl; (with_reducible repeat first | refine kn_ ?_ _ | refine kd_ ?_ | refine ka_ ?_ _); refine blk_put (cs := #[.int .i64 0, .int .i64 0]) ?_ 0 _ rfl; (with_reducible repeat first | refine kn_ ?_ _ | refine kd_ ?_ | refine ka_ ?_ _); exact BKg1.out) Try.underlying24 rfl (by kernel_rfl)) rfl ?_
        exact ⟨rfl, (by repeat first | (with_reducible first | exact HB.out | apply ba_ | apply bn_ | apply bd_ | refine below_set ?_ GEg1.out) | exact HB.out)⟩
theorem fracI_e (a : Int) {a' : Int} (e : a' = a) (b : Int) (ha : a.natAbs ≤ 4000000000000000000) (hb : b.natAbs ≤ 4000000000000000000) (h0 : b ≠ 0) (w : World) :
    Calls Try.prog 56 #[.int .i64 a', .int .i64 b] w fun e w' => e = .returned (.tuple #[.agg #[.int .i64 (fracA a b).1, .int .i64 (fracA a b).2.1], .bool (fracA a b).2.2]) ∧ Below w.heap.size w w' := by
  subst e
  exact fracI_c _ b ha hb h0 w
set_option maxHeartbeats 8000000 in
set_option maxRecDepth 100000 in
theorem multI_c (n d n1 d1 : Int) (w : World) :
    Calls Try.prog 107 #[.agg #[.int .i64 n, .int .i64 d], .agg #[.int .i64 n1, .int .i64 d1]] w fun e w' => e = .returned (.tuple #[.agg #[.int .i64 (multA n d n1 d1).1, .int .i64 (multA n d n1 d1).2.1], .bool (multA n d n1 d1).2.2]) ∧ Below w.heap.size w w' := by
  have HB := am_ (Below.refl w.heap.size w)
  obtain ⟨ka, ha⟩ := roundsOf (implIsF_ev n d)
  obtain ⟨kb, hbb⟩ := roundsOf (implIsF_ev n1 d1)
  have g0_ := ha
  by_cases c0_ : okF n d
  · rw [decide_eq_true c0_] at g0_
    have G1 := am_ g0_
    clear g0_
    have g1_ := hbb
    by_cases c1_ : okF n1 d1
    · rw [decide_eq_true c1_] at g1_
      have G2 := am_ g1_
      clear g1_
      have hm := okF_mul c0_ c1_
      have hfin : multA n d n1 d1 = fracA (n * n1) (d * d1) := by unfold multA; rw [if_pos ⟨c0_, c1_⟩]
      rw [hfin]
      obtain ⟨P, hP⟩ : ∃ P, P = n * n1 := ⟨_, rfl⟩
      obtain ⟨Q, hQ⟩ : ∃ Q, Q = d * d1 := ⟨_, rfl⟩
      rw [← hP, ← hQ] at hm ⊢
      have hw1 : IntKind.i64.wrap (n * n1) = P := by rw [← hP]; exact IntWalk.i64_in _ (by omega)
      have hw2 : IntKind.i64.wrap (d * d1) = Q := by rw [← hQ]; exact IntWalk.i64_in _ (by omega)
      obtain ⟨FR, hFR⟩ : ∃ F, F = fracA P Q := ⟨_, rfl⟩
      have HFR := am_ hFR.symm
      rw [← hFR]
      obtain ⟨n2, d2, o2⟩ := FR
      clear hFR
      have HPA := am_ (show P.natAbs ≤ 4000000000000000000 ∧ Q.natAbs ≤ 4000000000000000000 ∧ Q ≠ 0 from by omega)
      clear hfin hP hQ c0_ c1_
      go_enter Try.func107, Try.ntmps107
      go_wp2_with (first
        | (((with_reducible refine gate_dst (N := 2) rfl ?_); refine box_event ?hg (N := 2) ?hd (cs := #[.int .i64 n,.int .i64 d]) (t := 24) ?hr ?_; (case hd => rfl); (case hg => rfl); (case hr => first | (go_simp; done) | (go_simp; rfl))); intro g1 hg w_g1 hbox hb; have n_ := am_ (below_step (by repeat first | (with_reducible first | exact HB.out | apply ba_ | apply bn_ | apply bd_) | exact HB.out) hb); have BKg1 := am_ hbox; have GEg1 := am_ (show w.heap.size ≤ g1 from by rw [hg]; exact below_size (by repeat first | (with_reducible first | exact HB.out | apply ba_ | apply bn_ | apply bd_) | exact HB.out)); clear HB ; have HB := n_; clear n_ hb hbox hg)
        | (((with_reducible refine gate_dst (N := 3) rfl ?_); refine box_event ?hg (N := 3) ?hd (cs := #[.int .i64 n1,.int .i64 d1]) (t := 24) ?hr ?_; (case hd => rfl); (case hg => rfl); (case hr => first | (go_simp; done) | (go_simp; rfl))); intro g2 hg w_g2 hbox hb; have n_ := am_ (below_step (by repeat first | (with_reducible first | exact HB.out | apply ba_ | apply bn_ | apply bd_ | refine below_set ?_ GEg1.out) | exact HB.out) hb); have m_g1 := am_ (blk_below (blk_below BKg1.out (by repeat first | exact Below.refl _ _ | apply ba_ | apply bn_ | apply bd_)) hb); have NEg1_g2 := am_ (show g1 ≠ g2 from by rw [hg]; exact Nat.ne_of_lt (blk_lt (blk_below BKg1.out (by repeat first | exact Below.refl _ _ | apply ba_ | apply bn_ | apply bd_)))); have NEg2_g1 := am_ (Ne.symm NEg1_g2.out); have BKg2 := am_ hbox; have GEg2 := am_ (show w.heap.size ≤ g2 from by rw [hg]; exact below_size (by repeat first | (with_reducible first | exact HB.out | apply ba_ | apply bn_ | apply bd_ | refine below_set ?_ GEg1.out) | exact HB.out)); clear HB BKg1; have HB := n_; clear n_ hb hbox hg; have BKg1 := m_g1; clear m_g1)
        | ((((with_reducible refine gate_dst (N := 4) rfl ?_); refine box_event ?hg (N := 4) ?hd (cs := #[.int .i64 0,.int .i64 0]) (t := 24) ?hr ?_; (case hd => rfl); (case hg => rfl); (case hr => first | (go_simp; done) | (go_simp; rfl))); intro g3 hg w_g3 hbox hb; have n_ := am_ (below_step (by repeat first | (with_reducible first | exact HB.out | apply ba_ | apply bn_ | apply bd_ | refine below_set ?_ GEg1.out | refine below_set ?_ GEg2.out) | exact HB.out) hb); have m_g1 := am_ (blk_below (blk_below BKg1.out (by repeat first | exact Below.refl _ _ | apply ba_ | apply bn_ | apply bd_)) hb); have NEg1_g3 := am_ (show g1 ≠ g3 from by rw [hg]; exact Nat.ne_of_lt (blk_lt (blk_below BKg1.out (by repeat first | exact Below.refl _ _ | apply ba_ | apply bn_ | apply bd_)))); have NEg3_g1 := am_ (Ne.symm NEg1_g3.out); have m_g2 := am_ (blk_below (blk_below BKg2.out (by repeat first | exact Below.refl _ _ | apply ba_ | apply bn_ | apply bd_)) hb); have NEg2_g3 := am_ (show g2 ≠ g3 from by rw [hg]; exact Nat.ne_of_lt (blk_lt (blk_below BKg2.out (by repeat first | exact Below.refl _ _ | apply ba_ | apply bn_ | apply bd_)))); have NEg3_g2 := am_ (Ne.symm NEg2_g3.out); have BKg3 := am_ hbox; have GEg3 := am_ (show w.heap.size ≤ g3 from by rw [hg]; exact below_size (by repeat first | (with_reducible first | exact HB.out | apply ba_ | apply bn_ | apply bd_ | refine below_set ?_ GEg1.out | refine below_set ?_ GEg2.out) | exact HB.out)); clear HB BKg1 BKg2; have HB := n_; clear n_ hb hbox hg; have BKg1 := m_g1; clear m_g1; have BKg2 := m_g2; clear m_g2); have yg1_0 : w_g3.cell? ⟨g1, 0, none⟩ = some (.int .i64 n) := (blk_cell BKg1.out 0).trans rfl; have fg1_0 := blk_frozen BKg1.out 0; have yg1_1 : w_g3.cell? ⟨g1, 1, none⟩ = some (.int .i64 d) := (blk_cell BKg1.out 1).trans rfl; have fg1_1 := blk_frozen BKg1.out 1)
        )
      clear yg1_0 fg1_0 yg1_1 fg1_1
      refine (impl_isFraction.calls ka n d true _ G1.out).mono ?_
      rintro e w1_ ⟨rfl, hb⟩
      replace BKg1 := am_ (blk_below (blk_below BKg1.out (by repeat first | exact Below.refl _ _ | apply ba_ | apply bn_ | apply bd_)) hb); replace BKg2 := am_ (blk_below (blk_below BKg2.out (by repeat first | exact Below.refl _ _ | apply ba_ | apply bn_ | apply bd_)) hb); replace BKg3 := am_ (blk_below (blk_below BKg3.out (by repeat first | exact Below.refl _ _ | apply ba_ | apply bn_ | apply bd_)) hb); replace HB := am_ (below_step (by repeat first | (with_reducible first | exact HB.out | apply ba_ | apply bn_ | apply bd_) | exact HB.out) hb); clear hb
      have yg2_0 : w1_.cell? ⟨g2, 0, none⟩ = some (.int .i64 n1) := (blk_cell BKg2.out 0).trans rfl; have fg2_0 := blk_frozen BKg2.out 0; have yg2_1 : w1_.cell? ⟨g2, 1, none⟩ = some (.int .i64 d1) := (blk_cell BKg2.out 1).trans rfl; have fg2_1 := blk_frozen BKg2.out 1
      go_wp2_with fail
      clear yg2_0 fg2_0 yg2_1 fg2_1
      refine (impl_isFraction.calls kb n1 d1 true _ G2.out).mono ?_
      rintro e w2_ ⟨rfl, hb⟩
      replace BKg1 := am_ (blk_below (blk_below BKg1.out (by repeat first | exact Below.refl _ _ | apply ba_ | apply bn_ | apply bd_)) hb); replace BKg2 := am_ (blk_below (blk_below BKg2.out (by repeat first | exact Below.refl _ _ | apply ba_ | apply bn_ | apply bd_)) hb); replace BKg3 := am_ (blk_below (blk_below BKg3.out (by repeat first | exact Below.refl _ _ | apply ba_ | apply bn_ | apply bd_)) hb); replace HB := am_ (below_step (by repeat first | (with_reducible first | exact HB.out | apply ba_ | apply bn_ | apply bd_) | exact HB.out) hb); clear hb
      have yg1_0 : w2_.cell? ⟨g1, 0, none⟩ = some (.int .i64 n) := (blk_cell BKg1.out 0).trans rfl; have fg1_0 := blk_frozen BKg1.out 0; have yg1_1 : w2_.cell? ⟨g1, 1, none⟩ = some (.int .i64 d) := (blk_cell BKg1.out 1).trans rfl; have fg1_1 := blk_frozen BKg1.out 1
      have yg2_0 : w2_.cell? ⟨g2, 0, none⟩ = some (.int .i64 n1) := (blk_cell BKg2.out 0).trans rfl; have fg2_0 := blk_frozen BKg2.out 0; have yg2_1 : w2_.cell? ⟨g2, 1, none⟩ = some (.int .i64 d1) := (blk_cell BKg2.out 1).trans rfl; have fg2_1 := blk_frozen BKg2.out 1
      go_wp2_with fail
      clear yg1_0 fg1_0 yg1_1 fg1_1
      clear yg2_0 fg2_0 yg2_1 fg2_1
      refine (fracI_c P Q HPA.out.1 HPA.out.2.1 HPA.out.2.2 _).mono ?_
      rw [HFR.out]
      rintro e w3_ ⟨rfl, hb⟩
      replace BKg1 := am_ (blk_below (blk_below BKg1.out (by repeat first | exact Below.refl _ _ | apply ba_ | apply bn_ | apply bd_)) hb); replace BKg2 := am_ (blk_below (blk_below BKg2.out (by repeat first | exact Below.refl _ _ | apply ba_ | apply bn_ | apply bd_)) hb); replace BKg3 := am_ (blk_below (blk_below BKg3.out (by repeat first | exact Below.refl _ _ | apply ba_ | apply bn_ | apply bd_)) hb); replace HB := am_ (below_step (by repeat first | (with_reducible first | exact HB.out | apply ba_ | apply bn_ | apply bd_) | exact HB.out) hb); clear hb
      have yg3_0 : w3_.cell? ⟨g3, 0, none⟩ = some (.int .i64 0) := (blk_cell BKg3.out 0).trans rfl; have fg3_0 := blk_frozen BKg3.out 0; have yg3_1 : w3_.cell? ⟨g3, 1, none⟩ = some (.int .i64 0) := (blk_cell BKg3.out 1).trans rfl; have fg3_1 := blk_frozen BKg3.out 1
      go_wp2
      refine bodyPost_ret (results_ct rfl _ _ g3 24 #[.int .i64 n2, .int .i64 d2] (0, 0) _ rfl (by (with_reducible repeat first | refine kn_ ?_ _ | refine kd_ ?_ | refine ka_ ?_ _); refine blk_put (cs := #[.int .i64 n2, .int .i64 0]) ?_ 1 _ rfl; (with_reducible repeat first | refine kn_ ?_ _ | refine kd_ ?_ | refine ka_ ?_ _); refine blk_put (cs := #[.int .i64 0, .int .i64 0]) ?_ 0 _ rfl; (with_reducible repeat first | refine kn_ ?_ _ | refine kd_ ?_ | refine ka_ ?_ _); exact BKg3.out) Try.underlying24 rfl (by kernel_rfl)) rfl ?_
      exact ⟨rfl, (by repeat first | (with_reducible first | exact HB.out | apply ba_ | apply bn_ | apply bd_ | refine below_set ?_ GEg1.out | refine below_set ?_ GEg2.out | refine below_set ?_ GEg3.out) | exact HB.out)⟩
    · rw [decide_eq_false c1_] at g1_
      have G2 := am_ g1_
      clear g1_
      have hfin : multA n d n1 d1 = (0, 0, false) := by unfold multA; rw [if_neg (fun v => c1_ v.2)]
      rw [hfin]
      clear hfin
      go_enter Try.func107, Try.ntmps107
      go_wp2_with (first
        | (((with_reducible refine gate_dst (N := 2) rfl ?_); refine box_event ?hg (N := 2) ?hd (cs := #[.int .i64 n,.int .i64 d]) (t := 24) ?hr ?_; (case hd => rfl); (case hg => rfl); (case hr => first | (go_simp; done) | (go_simp; rfl))); intro g1 hg w_g1 hbox hb; have n_ := am_ (below_step (by repeat first | (with_reducible first | exact HB.out | apply ba_ | apply bn_ | apply bd_) | exact HB.out) hb); have BKg1 := am_ hbox; have GEg1 := am_ (show w.heap.size ≤ g1 from by rw [hg]; exact below_size (by repeat first | (with_reducible first | exact HB.out | apply ba_ | apply bn_ | apply bd_) | exact HB.out)); clear HB ; have HB := n_; clear n_ hb hbox hg)
        | (((with_reducible refine gate_dst (N := 3) rfl ?_); refine box_event ?hg (N := 3) ?hd (cs := #[.int .i64 n1,.int .i64 d1]) (t := 24) ?hr ?_; (case hd => rfl); (case hg => rfl); (case hr => first | (go_simp; done) | (go_simp; rfl))); intro g2 hg w_g2 hbox hb; have n_ := am_ (below_step (by repeat first | (with_reducible first | exact HB.out | apply ba_ | apply bn_ | apply bd_ | refine below_set ?_ GEg1.out) | exact HB.out) hb); have m_g1 := am_ (blk_below (blk_below BKg1.out (by repeat first | exact Below.refl _ _ | apply ba_ | apply bn_ | apply bd_)) hb); have NEg1_g2 := am_ (show g1 ≠ g2 from by rw [hg]; exact Nat.ne_of_lt (blk_lt (blk_below BKg1.out (by repeat first | exact Below.refl _ _ | apply ba_ | apply bn_ | apply bd_)))); have NEg2_g1 := am_ (Ne.symm NEg1_g2.out); have BKg2 := am_ hbox; have GEg2 := am_ (show w.heap.size ≤ g2 from by rw [hg]; exact below_size (by repeat first | (with_reducible first | exact HB.out | apply ba_ | apply bn_ | apply bd_ | refine below_set ?_ GEg1.out) | exact HB.out)); clear HB BKg1; have HB := n_; clear n_ hb hbox hg; have BKg1 := m_g1; clear m_g1)
        | ((((with_reducible refine gate_dst (N := 4) rfl ?_); refine box_event ?hg (N := 4) ?hd (cs := #[.int .i64 0,.int .i64 0]) (t := 24) ?hr ?_; (case hd => rfl); (case hg => rfl); (case hr => first | (go_simp; done) | (go_simp; rfl))); intro g3 hg w_g3 hbox hb; have n_ := am_ (below_step (by repeat first | (with_reducible first | exact HB.out | apply ba_ | apply bn_ | apply bd_ | refine below_set ?_ GEg1.out | refine below_set ?_ GEg2.out) | exact HB.out) hb); have m_g1 := am_ (blk_below (blk_below BKg1.out (by repeat first | exact Below.refl _ _ | apply ba_ | apply bn_ | apply bd_)) hb); have NEg1_g3 := am_ (show g1 ≠ g3 from by rw [hg]; exact Nat.ne_of_lt (blk_lt (blk_below BKg1.out (by repeat first | exact Below.refl _ _ | apply ba_ | apply bn_ | apply bd_)))); have NEg3_g1 := am_ (Ne.symm NEg1_g3.out); have m_g2 := am_ (blk_below (blk_below BKg2.out (by repeat first | exact Below.refl _ _ | apply ba_ | apply bn_ | apply bd_)) hb); have NEg2_g3 := am_ (show g2 ≠ g3 from by rw [hg]; exact Nat.ne_of_lt (blk_lt (blk_below BKg2.out (by repeat first | exact Below.refl _ _ | apply ba_ | apply bn_ | apply bd_)))); have NEg3_g2 := am_ (Ne.symm NEg2_g3.out); have BKg3 := am_ hbox; have GEg3 := am_ (show w.heap.size ≤ g3 from by rw [hg]; exact below_size (by repeat first | (with_reducible first | exact HB.out | apply ba_ | apply bn_ | apply bd_ | refine below_set ?_ GEg1.out | refine below_set ?_ GEg2.out) | exact HB.out)); clear HB BKg1 BKg2; have HB := n_; clear n_ hb hbox hg; have BKg1 := m_g1; clear m_g1; have BKg2 := m_g2; clear m_g2); have yg1_0 : w_g3.cell? ⟨g1, 0, none⟩ = some (.int .i64 n) := (blk_cell BKg1.out 0).trans rfl; have fg1_0 := blk_frozen BKg1.out 0; have yg1_1 : w_g3.cell? ⟨g1, 1, none⟩ = some (.int .i64 d) := (blk_cell BKg1.out 1).trans rfl; have fg1_1 := blk_frozen BKg1.out 1)
        )
      clear yg1_0 fg1_0 yg1_1 fg1_1
      refine (impl_isFraction.calls ka n d true _ G1.out).mono ?_
      rintro e w1_ ⟨rfl, hb⟩
      replace BKg1 := am_ (blk_below (blk_below BKg1.out (by repeat first | exact Below.refl _ _ | apply ba_ | apply bn_ | apply bd_)) hb); replace BKg2 := am_ (blk_below (blk_below BKg2.out (by repeat first | exact Below.refl _ _ | apply ba_ | apply bn_ | apply bd_)) hb); replace BKg3 := am_ (blk_below (blk_below BKg3.out (by repeat first | exact Below.refl _ _ | apply ba_ | apply bn_ | apply bd_)) hb); replace HB := am_ (below_step (by repeat first | (with_reducible first | exact HB.out | apply ba_ | apply bn_ | apply bd_) | exact HB.out) hb); clear hb
      have yg2_0 : w1_.cell? ⟨g2, 0, none⟩ = some (.int .i64 n1) := (blk_cell BKg2.out 0).trans rfl; have fg2_0 := blk_frozen BKg2.out 0; have yg2_1 : w1_.cell? ⟨g2, 1, none⟩ = some (.int .i64 d1) := (blk_cell BKg2.out 1).trans rfl; have fg2_1 := blk_frozen BKg2.out 1
      go_wp2_with fail
      clear yg2_0 fg2_0 yg2_1 fg2_1
      refine (impl_isFraction.calls kb n1 d1 false _ G2.out).mono ?_
      rintro e w2_ ⟨rfl, hb⟩
      replace BKg1 := am_ (blk_below (blk_below BKg1.out (by repeat first | exact Below.refl _ _ | apply ba_ | apply bn_ | apply bd_)) hb); replace BKg2 := am_ (blk_below (blk_below BKg2.out (by repeat first | exact Below.refl _ _ | apply ba_ | apply bn_ | apply bd_)) hb); replace BKg3 := am_ (blk_below (blk_below BKg3.out (by repeat first | exact Below.refl _ _ | apply ba_ | apply bn_ | apply bd_)) hb); replace HB := am_ (below_step (by repeat first | (with_reducible first | exact HB.out | apply ba_ | apply bn_ | apply bd_) | exact HB.out) hb); clear hb
      have yg3_0 : w2_.cell? ⟨g3, 0, none⟩ = some (.int .i64 0) := (blk_cell BKg3.out 0).trans rfl; have fg3_0 := blk_frozen BKg3.out 0; have yg3_1 : w2_.cell? ⟨g3, 1, none⟩ = some (.int .i64 0) := (blk_cell BKg3.out 1).trans rfl; have fg3_1 := blk_frozen BKg3.out 1
      go_wp2
      refine bodyPost_ret (results_ct rfl _ _ g3 24 #[.int .i64 0, .int .i64 0] (0, 0) _ rfl (by (with_reducible repeat first | refine kn_ ?_ _ | refine kd_ ?_ | refine ka_ ?_ _); refine blk_put (cs := #[.int .i64 0, .int .i64 0]) ?_ 1 _ rfl; (with_reducible repeat first | refine kn_ ?_ _ | refine kd_ ?_ | refine ka_ ?_ _); refine blk_put (cs := #[.int .i64 0, .int .i64 0]) ?_ 0 _ rfl; (with_reducible repeat first | refine kn_ ?_ _ | refine kd_ ?_ | refine ka_ ?_ _); exact BKg3.out) Try.underlying24 rfl (by kernel_rfl)) rfl ?_
      exact ⟨rfl, (by repeat first | (with_reducible first | exact HB.out | apply ba_ | apply bn_ | apply bd_ | refine below_set ?_ GEg1.out | refine below_set ?_ GEg2.out | refine below_set ?_ GEg3.out) | exact HB.out)⟩
  · rw [decide_eq_false c0_] at g0_
    have G1 := am_ g0_
    clear g0_
    have hfin : multA n d n1 d1 = (0, 0, false) := by unfold multA; rw [if_neg (fun v => c0_ v.1)]
    rw [hfin]
    clear hfin
    go_enter Try.func107, Try.ntmps107
    go_wp2_with (first
      | (((with_reducible refine gate_dst (N := 2) rfl ?_); refine box_event ?hg (N := 2) ?hd (cs := #[.int .i64 n,.int .i64 d]) (t := 24) ?hr ?_; (case hd => rfl); (case hg => rfl); (case hr => first | (go_simp; done) | (go_simp; rfl))); intro g1 hg w_g1 hbox hb; have n_ := am_ (below_step (by repeat first | (with_reducible first | exact HB.out | apply ba_ | apply bn_ | apply bd_) | exact HB.out) hb); have BKg1 := am_ hbox; have GEg1 := am_ (show w.heap.size ≤ g1 from by rw [hg]; exact below_size (by repeat first | (with_reducible first | exact HB.out | apply ba_ | apply bn_ | apply bd_) | exact HB.out)); clear HB ; have HB := n_; clear n_ hb hbox hg)
      | (((with_reducible refine gate_dst (N := 3) rfl ?_); refine box_event ?hg (N := 3) ?hd (cs := #[.int .i64 n1,.int .i64 d1]) (t := 24) ?hr ?_; (case hd => rfl); (case hg => rfl); (case hr => first | (go_simp; done) | (go_simp; rfl))); intro g2 hg w_g2 hbox hb; have n_ := am_ (below_step (by repeat first | (with_reducible first | exact HB.out | apply ba_ | apply bn_ | apply bd_ | refine below_set ?_ GEg1.out) | exact HB.out) hb); have m_g1 := am_ (blk_below (blk_below BKg1.out (by repeat first | exact Below.refl _ _ | apply ba_ | apply bn_ | apply bd_)) hb); have NEg1_g2 := am_ (show g1 ≠ g2 from by rw [hg]; exact Nat.ne_of_lt (blk_lt (blk_below BKg1.out (by repeat first | exact Below.refl _ _ | apply ba_ | apply bn_ | apply bd_)))); have NEg2_g1 := am_ (Ne.symm NEg1_g2.out); have BKg2 := am_ hbox; have GEg2 := am_ (show w.heap.size ≤ g2 from by rw [hg]; exact below_size (by repeat first | (with_reducible first | exact HB.out | apply ba_ | apply bn_ | apply bd_ | refine below_set ?_ GEg1.out) | exact HB.out)); clear HB BKg1; have HB := n_; clear n_ hb hbox hg; have BKg1 := m_g1; clear m_g1)
      | ((((with_reducible refine gate_dst (N := 4) rfl ?_); refine box_event ?hg (N := 4) ?hd (cs := #[.int .i64 0,.int .i64 0]) (t := 24) ?hr ?_; (case hd => rfl); (case hg => rfl); (case hr => first | (go_simp; done) | (go_simp; rfl))); intro g3 hg w_g3 hbox hb; have n_ := am_ (below_step (by repeat first | (with_reducible first | exact HB.out | apply ba_ | apply bn_ | apply bd_ | refine below_set ?_ GEg1.out | refine below_set ?_ GEg2.out) | exact HB.out) hb); have m_g1 := am_ (blk_below (blk_below BKg1.out (by repeat first | exact Below.refl _ _ | apply ba_ | apply bn_ | apply bd_)) hb); have NEg1_g3 := am_ (show g1 ≠ g3 from by rw [hg]; exact Nat.ne_of_lt (blk_lt (blk_below BKg1.out (by repeat first | exact Below.refl _ _ | apply ba_ | apply bn_ | apply bd_)))); have NEg3_g1 := am_ (Ne.symm NEg1_g3.out); have m_g2 := am_ (blk_below (blk_below BKg2.out (by repeat first | exact Below.refl _ _ | apply ba_ | apply bn_ | apply bd_)) hb); have NEg2_g3 := am_ (show g2 ≠ g3 from by rw [hg]; exact Nat.ne_of_lt (blk_lt (blk_below BKg2.out (by repeat first | exact Below.refl _ _ | apply ba_ | apply bn_ | apply bd_)))); have NEg3_g2 := am_ (Ne.symm NEg2_g3.out); have BKg3 := am_ hbox; have GEg3 := am_ (show w.heap.size ≤ g3 from by rw [hg]; exact below_size (by repeat first | (with_reducible first | exact HB.out | apply ba_ | apply bn_ | apply bd_ | refine below_set ?_ GEg1.out | refine below_set ?_ GEg2.out) | exact HB.out)); clear HB BKg1 BKg2; have HB := n_; clear n_ hb hbox hg; have BKg1 := m_g1; clear m_g1; have BKg2 := m_g2; clear m_g2); have yg1_0 : w_g3.cell? ⟨g1, 0, none⟩ = some (.int .i64 n) := (blk_cell BKg1.out 0).trans rfl; have fg1_0 := blk_frozen BKg1.out 0; have yg1_1 : w_g3.cell? ⟨g1, 1, none⟩ = some (.int .i64 d) := (blk_cell BKg1.out 1).trans rfl; have fg1_1 := blk_frozen BKg1.out 1)
      )
    clear yg1_0 fg1_0 yg1_1 fg1_1
    refine (impl_isFraction.calls ka n d false _ G1.out).mono ?_
    rintro e w1_ ⟨rfl, hb⟩
    replace BKg1 := am_ (blk_below (blk_below BKg1.out (by repeat first | exact Below.refl _ _ | apply ba_ | apply bn_ | apply bd_)) hb); replace BKg2 := am_ (blk_below (blk_below BKg2.out (by repeat first | exact Below.refl _ _ | apply ba_ | apply bn_ | apply bd_)) hb); replace BKg3 := am_ (blk_below (blk_below BKg3.out (by repeat first | exact Below.refl _ _ | apply ba_ | apply bn_ | apply bd_)) hb); replace HB := am_ (below_step (by repeat first | (with_reducible first | exact HB.out | apply ba_ | apply bn_ | apply bd_) | exact HB.out) hb); clear hb
    have yg3_0 : w1_.cell? ⟨g3, 0, none⟩ = some (.int .i64 0) := (blk_cell BKg3.out 0).trans rfl; have fg3_0 := blk_frozen BKg3.out 0; have yg3_1 : w1_.cell? ⟨g3, 1, none⟩ = some (.int .i64 0) := (blk_cell BKg3.out 1).trans rfl; have fg3_1 := blk_frozen BKg3.out 1
    go_wp2
    refine bodyPost_ret (results_ct rfl _ _ g3 24 #[.int .i64 0, .int .i64 0] (0, 0) _ rfl (by (with_reducible repeat first | refine kn_ ?_ _ | refine kd_ ?_ | refine ka_ ?_ _); refine blk_put (cs := #[.int .i64 0, .int .i64 0]) ?_ 1 _ rfl; (with_reducible repeat first | refine kn_ ?_ _ | refine kd_ ?_ | refine ka_ ?_ _); refine blk_put (cs := #[.int .i64 0, .int .i64 0]) ?_ 0 _ rfl; (with_reducible repeat first | refine kn_ ?_ _ | refine kd_ ?_ | refine ka_ ?_ _); exact BKg3.out) Try.underlying24 rfl (by kernel_rfl)) rfl ?_
    exact ⟨rfl, (by repeat first | (with_reducible first | exact HB.out | apply ba_ | apply bn_ | apply bd_ | refine below_set ?_ GEg1.out | refine below_set ?_ GEg2.out | refine below_set ?_ GEg3.out) | exact HB.out)⟩
theorem ylI (y : Int) : 365 ≤ ylA y ∧ ylA y ≤ 366 := by have := yl_eq y; have := leap_bd y; omega
set_option maxHeartbeats 8000000 in
set_option maxRecDepth 100000 in
theorem dateI_c (day : Int) (h : 0 ≤ day ∧ day ≤ 36524) (w : World) :
    Calls Try.prog 135 #[.int .i64 day] w fun e w' => e = .returned (.agg #[.int .i64 (dateC day).1, .int .i64 (dateC day).2.1, .int .i64 (dateC day).2.2]) ∧ Below w.heap.size w w' := by
  have HB := am_ (Below.refl w.heap.size w)
  have HD := am_ (show day = dbyA 2000 + day from by unfold dbyA; omega)
  have HI := am_ h
  go_enter Try.func135, Try.ntmps135
  go_wp2_with (first
    | (((with_reducible refine gate_dst (N := 2) rfl ?_); refine box_event ?hg (N := 2) ?hd (cs := #[.int .i64 0, .int .i64 0, .int .i64 0]) (t := 125) ?hr ?_; (case hd => rfl); (case hg => rfl); (case hr => first | (go_simp; done) | (go_simp; rfl))); intro g1 hg w2 hbox hb; have n_ := am_ (below_step (by repeat first | (with_reducible first | exact HB.out | apply ba_ | apply bn_ | apply bd_) | exact HB.out) hb); have BK1 := am_ hbox; have GE1 := am_ (show w.heap.size ≤ g1 from by rw [hg]; exact below_size (by repeat first | (with_reducible first | exact HB.out | apply ba_ | apply bn_ | apply bd_) | exact HB.out)); clear HB; have HB := n_; clear n_ hb hbox hg)
    | (((with_reducible refine gate_dst (N := 3) rfl ?_); refine box_event ?hg (N := 3) ?hd (cs := #[.int .i64 0, .int .i64 0, .int .i64 0]) (t := 125) ?hr ?_; (case hd => rfl); (case hg => rfl); (case hr => first | (go_simp; done) | (go_simp; rfl))); intro g2 hg w3 hbox hb; have n_ := am_ (below_step (by repeat first | (with_reducible first | exact HB.out | apply ba_ | apply bn_ | apply bd_) | exact HB.out) hb); have m_ := am_ (blk_below (blk_below BK1.out (by repeat first | exact Below.refl _ _ | apply ba_ | apply bn_ | apply bd_)) hb); have BK2 := am_ hbox; have GE2 := am_ (show w.heap.size ≤ g2 from by rw [hg]; exact below_size (by repeat first | (with_reducible first | exact HB.out | apply ba_ | apply bn_ | apply bd_) | exact HB.out)); have NE := am_ (show g1 ≠ g2 from by rw [hg]; exact Nat.ne_of_lt (blk_lt (blk_below BK1.out (by repeat first | exact Below.refl _ _ | apply ba_ | apply bn_ | apply bd_)))); clear HB BK1; have HB := n_; have BK1 := m_; clear n_ m_ hb hbox hg; have y0 : w3.cell? ⟨g2, 0, none⟩ = some (.int .i64 0) := (blk_cell BK2.out 0).trans rfl; have y1 : w3.cell? ⟨g2, 1, none⟩ = some (.int .i64 0) := (blk_cell BK2.out 1).trans rfl; have y2 : w3.cell? ⟨g2, 2, none⟩ = some (.int .i64 0) := (blk_cell BK2.out 2).trans rfl; have f0 := blk_frozen BK2.out 0; have f1 := blk_frozen BK2.out 1; have f2 := blk_frozen BK2.out 2))
  go_loopw [0] (fun v0 wr => ∃ (x y : Int), v0 = .int .i64 x ∧ Aside0 (2000 ≤ y ∧ y ≤ 2099 ∧ 0 ≤ x ∧ x ≤ 36524 ∧ day = dbyA y + x) ∧ Aside0 (wr.heap[g1]? = some (.cells #[.int .i64 0, .int .i64 0, .int .i64 0] 125 (0, 0))) ∧ Aside0 (wr.heap[g2]? = some (.cells #[.int .i64 y, .int .i64 1, .int .i64 0] 125 (0, 0))) ∧ Aside0 (Below w.heap.size w wr)) (fun v0 _ => (intOf v0).toNat)
  case atStart => exact ⟨day, 2000, rfl, ⟨by omega, by omega, h.1, h.2, HD.out⟩, ⟨(by repeat (with_reducible first | exact BK1.out | refine kn_ ?_ _ | refine kd_ ?_ | refine ka_ ?_ _ | refine kf_ ?_ NE.out _))⟩, ⟨(by (with_reducible repeat first | refine kn_ ?_ _ | refine kd_ ?_ | refine ka_ ?_ _); refine blk_put (cs := #[.int .i64 2000, .int .i64 1, .int .i64 0]) ?_ 2 _ rfl; (with_reducible repeat first | refine kn_ ?_ _ | refine kd_ ?_ | refine ka_ ?_ _); refine blk_put (cs := #[.int .i64 2000, .int .i64 0, .int .i64 0]) ?_ 1 _ rfl; (with_reducible repeat first | refine kn_ ?_ _ | refine kd_ ?_ | refine ka_ ?_ _); refine blk_put (cs := #[.int .i64 0, .int .i64 0, .int .i64 0]) ?_ 0 _ rfl; (with_reducible repeat first | refine kn_ ?_ _ | refine kd_ ?_ | refine ka_ ?_ _); exact BK2.out)⟩, ⟨(by repeat first | (with_reducible first | exact HB.out | apply ba_ | apply bn_ | apply bd_ | refine below_set ?_ GE1.out | refine below_set ?_ GE2.out) | exact HB.out)⟩⟩
  case round =>
    clear HB BK1 BK2 y0 y1 y2 f0 f1 f2
    obtain ⟨x, y, rfl, HX, BK1, BK2, HB⟩ := hrel
    obtain ⟨hy1, hy2, hx1, hx2, hxd⟩ := HX.out
    obtain ⟨L, hL⟩ : ∃ L, L = ylA y := ⟨_, rfl⟩
    have hLb := ylI y
    rw [← hL] at hLb
    have HLE := am_ (show impl_daysOf.f y = some L from by rw [hL]; exact daysOf_eq y (by omega))
    have HS := am_ (show dbyA (y + 1) = dbyA y + L from by rw [hL]; exact dby_succ y)
    have y0 : wr.cell? ⟨g2, 0, none⟩ = some (.int .i64 y) := (blk_cell BK2.out 0).trans rfl
    by_cases c : L ≤ x
    · have cb : decide (L ≤ x) = true := decide_eq_true c
      have HXD := am_ hxd
      have hn : y ≠ 2099 := by
        intro q
        subst q
        have e : dbyA (2099 + 1) = 36525 := by decide
        have := HS.out
        have := HI.out
        omega
      have HN := am_ hn
      clear hn
      clear hL hxd
      go_wp2_with fail
      clear y0
      refine (impl_daysOf.calls y L _ HLE.out).mono ?_
      rintro e w4 ⟨rfl, hb0⟩
      have hb := db_ hb0
      replace BK1 := am_ (blk_below (blk_below BK1.out (by repeat first | exact Below.refl _ _ | apply ba_ | apply bn_ | apply bd_)) hb); replace BK2 := am_ (blk_below (blk_below BK2.out (by repeat first | exact Below.refl _ _ | apply ba_ | apply bn_ | apply bd_)) hb); replace HB := am_ (below_step (by repeat first | (with_reducible first | exact HB.out | apply ba_ | apply bn_ | apply bd_) | exact HB.out) hb); clear hb
      clear hb0
      have y0 : w4.cell? ⟨g2, 0, none⟩ = some (.int .i64 y) := (blk_cell BK2.out 0).trans rfl
      go_wp2_with fail
      clear y0
      refine (impl_daysOf.calls y L _ HLE.out).mono ?_
      rintro e w5 ⟨rfl, hb0⟩
      have hb := db_ hb0
      replace BK1 := am_ (blk_below (blk_below BK1.out (by repeat first | exact Below.refl _ _ | apply ba_ | apply bn_ | apply bd_)) hb); replace BK2 := am_ (blk_below (blk_below BK2.out (by repeat first | exact Below.refl _ _ | apply ba_ | apply bn_ | apply bd_)) hb); replace HB := am_ (below_step (by repeat first | (with_reducible first | exact HB.out | apply ba_ | apply bn_ | apply bd_) | exact HB.out) hb); clear hb
      clear hb0
      have y0 : w5.cell? ⟨g2, 0, none⟩ = some (.int .i64 y) := (blk_cell BK2.out 0).trans rfl
      have f0 := blk_frozen BK2.out 0
      go_wp2
      go_roundw
      case rel => exact ⟨x - L, y + 1, by go_num, ⟨by omega, by have := HN.out; omega, by omega, by omega, by have := HS.out; have := HXD.out; omega⟩, ⟨(by repeat (with_reducible first | exact BK1.out | refine kn_ ?_ _ | refine kd_ ?_ | refine ka_ ?_ _ | refine kf_ ?_ NE.out _))⟩, ⟨(by (with_reducible repeat first | refine kn_ ?_ _ | refine kd_ ?_ | refine ka_ ?_ _); refine blk_put (cs := #[.int .i64 y, .int .i64 1, .int .i64 0]) ?_ 0 _ rfl; (with_reducible repeat first | refine kn_ ?_ _ | refine kd_ ?_ | refine ka_ ?_ _); exact BK2.out)⟩, ⟨(by repeat first | (with_reducible first | exact HB.out | apply ba_ | apply bn_ | apply bd_ | refine below_set ?_ GE1.out | refine below_set ?_ GE2.out) | exact HB.out)⟩⟩
      case measure => simp [intOf]; omega
    · have cb : decide (L ≤ x) = false := decide_eq_false c
      have HLL := am_ (show ylA y = L from hL.symm)
      have HXL := am_ (show day = dbyA y + cumA y 1 + x ∧ x + cumA y 1 < L from by rw [cum_1]; omega)
      clear hL hxd
      go_wp2_with fail
      clear y0
      refine (impl_daysOf.calls y L _ HLE.out).mono ?_
      rintro e w4 ⟨rfl, hb0⟩
      have hb := db_ hb0
      replace BK1 := am_ (blk_below (blk_below BK1.out (by repeat first | exact Below.refl _ _ | apply ba_ | apply bn_ | apply bd_)) hb); replace BK2 := am_ (blk_below (blk_below BK2.out (by repeat first | exact Below.refl _ _ | apply ba_ | apply bn_ | apply bd_)) hb); replace HB := am_ (below_step (by repeat first | (with_reducible first | exact HB.out | apply ba_ | apply bn_ | apply bd_) | exact HB.out) hb); clear hb
      clear hb0
      go_wp2
      go_loopw [0] (fun v0 wr => ∃ (x m : Int), v0 = .int .i64 x ∧ Aside0 (1 ≤ m ∧ m ≤ 12 ∧ 0 ≤ x ∧ x ≤ 36524 ∧ day = dbyA y + cumA y m + x ∧ x + cumA y m < L) ∧ Aside0 (wr.heap[g1]? = some (.cells #[.int .i64 0, .int .i64 0, .int .i64 0] 125 (0, 0))) ∧ Aside0 (wr.heap[g2]? = some (.cells #[.int .i64 y, .int .i64 m, .int .i64 0] 125 (0, 0))) ∧ Aside0 (Below w.heap.size w wr)) (fun v0 _ => (intOf v0).toNat)
      case atStart => exact ⟨x, 1, rfl, ⟨by omega, by omega, hx1, hx2, HXL.out.1, HXL.out.2⟩, ⟨(by (with_reducible repeat first | refine kn_ ?_ _ | refine kd_ ?_ | refine ka_ ?_ _); exact BK1.out)⟩, ⟨(by (with_reducible repeat first | refine kn_ ?_ _ | refine kd_ ?_ | refine ka_ ?_ _); exact BK2.out)⟩, ⟨(by repeat first | (with_reducible first | exact HB.out | apply ba_ | apply bn_ | apply bd_) | exact HB.out)⟩⟩
      case round =>
        clear HB BK1 BK2 c cb
        obtain ⟨x, m, rfl, HX, BK1, BK2, HB⟩ := hrel
        obtain ⟨hm1, hm2, hx1, hx2, hxd, hxl⟩ := HX.out
        obtain ⟨D, hD⟩ : ∃ D, D = dimA y m := ⟨_, rfl⟩
        have hDb := dim_bd y m
        rw [← hD] at hDb
        have HLE := am_ (show impl_daysIn.f y m = some D from by rw [hD]; exact daysIn_eq y m (by omega))
        have HS := am_ (show cumA y (m + 1) = cumA y m + D from by rw [hD]; exact cum_succ y m ⟨hm1, hm2⟩)
        have HC := am_ (cum_bd y m)
        have HXD := am_ hxd
        have HXE := am_ hxl
        have y0 : wr.cell? ⟨g2, 0, none⟩ = some (.int .i64 y) := (blk_cell BK2.out 0).trans rfl
        have y1 : wr.cell? ⟨g2, 1, none⟩ = some (.int .i64 m) := (blk_cell BK2.out 1).trans rfl
        by_cases c : D ≤ x
        · have cb : decide (D ≤ x) = true := decide_eq_true c
          have hn : m ≠ 12 := by
            intro q
            subst q
            have e : cumA y (12 + 1) = ylA y := cum_13 y
            have := HS.out
            have := HLL.out
            omega
          have HN := am_ hn
          clear hn
          clear hD hxd hxl
          go_wp2_with fail
          clear y0 y1
          refine (impl_daysIn.calls y m D _ HLE.out).mono ?_
          rintro e w4 ⟨rfl, hb0⟩
          have hb := db_ hb0
          replace BK1 := am_ (blk_below (blk_below BK1.out (by repeat first | exact Below.refl _ _ | apply ba_ | apply bn_ | apply bd_)) hb); replace BK2 := am_ (blk_below (blk_below BK2.out (by repeat first | exact Below.refl _ _ | apply ba_ | apply bn_ | apply bd_)) hb); replace HB := am_ (below_step (by repeat first | (with_reducible first | exact HB.out | apply ba_ | apply bn_ | apply bd_) | exact HB.out) hb); clear hb
          clear hb0
          have y0 : w4.cell? ⟨g2, 0, none⟩ = some (.int .i64 y) := (blk_cell BK2.out 0).trans rfl
          have y1 : w4.cell? ⟨g2, 1, none⟩ = some (.int .i64 m) := (blk_cell BK2.out 1).trans rfl
          go_wp2_with fail
          clear y0 y1
          refine (impl_daysIn.calls y m D _ HLE.out).mono ?_
          rintro e w5 ⟨rfl, hb0⟩
          have hb := db_ hb0
          replace BK1 := am_ (blk_below (blk_below BK1.out (by repeat first | exact Below.refl _ _ | apply ba_ | apply bn_ | apply bd_)) hb); replace BK2 := am_ (blk_below (blk_below BK2.out (by repeat first | exact Below.refl _ _ | apply ba_ | apply bn_ | apply bd_)) hb); replace HB := am_ (below_step (by repeat first | (with_reducible first | exact HB.out | apply ba_ | apply bn_ | apply bd_) | exact HB.out) hb); clear hb
          clear hb0
          have y1 : w5.cell? ⟨g2, 1, none⟩ = some (.int .i64 m) := (blk_cell BK2.out 1).trans rfl
          have f1 := blk_frozen BK2.out 1
          go_wp2
          go_roundw
          case rel => exact ⟨x - D, m + 1, by go_num, ⟨by omega, by have := HN.out; omega, by omega, by omega, by have := HS.out; have := HXD.out; omega, by have := HS.out; have := HXE.out; omega⟩, ⟨(by repeat (with_reducible first | exact BK1.out | refine kn_ ?_ _ | refine kd_ ?_ | refine ka_ ?_ _ | refine kf_ ?_ NE.out _))⟩, ⟨(by (with_reducible repeat first | refine kn_ ?_ _ | refine kd_ ?_ | refine ka_ ?_ _); refine blk_put (cs := #[.int .i64 y, .int .i64 m, .int .i64 0]) ?_ 1 _ rfl; (with_reducible repeat first | refine kn_ ?_ _ | refine kd_ ?_ | refine ka_ ?_ _); exact BK2.out)⟩, ⟨(by repeat first | (with_reducible first | exact HB.out | apply ba_ | apply bn_ | apply bd_ | refine below_set ?_ GE1.out | refine below_set ?_ GE2.out) | exact HB.out)⟩⟩
          case measure => simp [intOf]; omega
        · have cb : decide (D ≤ x) = false := decide_eq_false c
          have HDT := am_ (show dateC day = (y, m, x + 1) from dateC_eq ⟨⟨hy1, hy2⟩, ⟨hm1, hm2⟩, by omega, by omega⟩)
          clear hD hxd hxl
          go_wp2_with fail
          clear y0 y1
          refine (impl_daysIn.calls y m D _ HLE.out).mono ?_
          rintro e w4 ⟨rfl, hb0⟩
          have hb := db_ hb0
          replace BK1 := am_ (blk_below (blk_below BK1.out (by repeat first | exact Below.refl _ _ | apply ba_ | apply bn_ | apply bd_)) hb); replace BK2 := am_ (blk_below (blk_below BK2.out (by repeat first | exact Below.refl _ _ | apply ba_ | apply bn_ | apply bd_)) hb); replace HB := am_ (below_step (by repeat first | (with_reducible first | exact HB.out | apply ba_ | apply bn_ | apply bd_) | exact HB.out) hb); clear hb
          clear hb0
          have y0 : w4.cell? ⟨g2, 0, none⟩ = some (.int .i64 y) := (blk_cell BK2.out 0).trans rfl
          have y1 : w4.cell? ⟨g2, 1, none⟩ = some (.int .i64 m) := (blk_cell BK2.out 1).trans rfl
          have y2 : w4.cell? ⟨g2, 2, none⟩ = some (.int .i64 0) := (blk_cell BK2.out 2).trans rfl
          have f0 := blk_frozen BK2.out 0
          have f1 := blk_frozen BK2.out 1
          have f2 := blk_frozen BK2.out 2
          have z0 : w4.cell? ⟨g1, 0, none⟩ = some (.int .i64 0) := (blk_cell BK1.out 0).trans rfl
          have z1 : w4.cell? ⟨g1, 1, none⟩ = some (.int .i64 0) := (blk_cell BK1.out 1).trans rfl
          have z2 : w4.cell? ⟨g1, 2, none⟩ = some (.int .i64 0) := (blk_cell BK1.out 2).trans rfl
          have e0 := blk_frozen BK1.out 0
          have e1 := blk_frozen BK1.out 1
          have e2 := blk_frozen BK1.out 2
          have hn1 := NE.out
          have hn2 := Ne.symm NE.out
          go_wp2
          refine bodyPost_ret (results_cell_row rfl _ _ g1 125 #[.int .i64 y, .int .i64 m, .int .i64 (x + 1)] (0, 0) _ rfl (by (with_reducible repeat first | refine kn_ ?_ _ | refine kd_ ?_ | refine ka_ ?_ _); refine blk_put (cs := #[.int .i64 y, .int .i64 m, .int .i64 0]) ?_ 2 _ rfl; (with_reducible repeat first | refine kn_ ?_ _ | refine kd_ ?_ | refine ka_ ?_ _); refine blk_put (cs := #[.int .i64 y, .int .i64 0, .int .i64 0]) ?_ 1 _ rfl; (with_reducible repeat first | refine kn_ ?_ _ | refine kd_ ?_ | refine ka_ ?_ _); refine blk_put (cs := #[.int .i64 0, .int .i64 0, .int .i64 0]) ?_ 0 _ rfl; (with_reducible repeat first | refine kn_ ?_ _ | refine kd_ ?_ | refine ka_ ?_ _ | refine kf_ ?_ NE.out _); exact BK1.out) Try.underlying125 rfl (by kernel_rfl)) rfl ?_
          exact ⟨by rw [HDT.out], (by repeat first | (with_reducible first | exact HB.out | apply ba_ | apply bn_ | apply bd_ | refine below_set ?_ GE1.out | refine below_set ?_ GE2.out) | exact HB.out)⟩
set_option maxHeartbeats 8000000 in
set_option maxRecDepth 100000 in
theorem countI_c (a b c : Int) (hv : validC a b c) (w : World) :
    Calls Try.prog 126 #[.int .i64 a, .int .i64 b, .int .i64 c] w fun e w' => e = .returned (.tuple #[.agg #[.int .i64 (countA a b c).1, .int .i64 (countA a b c).2.1], .bool (countA a b c).2.2]) ∧ Below w.heap.size w w' := by
  have HB := am_ (Below.refl w.heap.size w)
  obtain ⟨ha, hb, hab, hc⟩ := hv
  have ht := thirty_bd a b ha hb hab
  have hnb := num_bd (b - a).toNat a
  obtain ⟨FR, hFR⟩ : ∃ F, F = countA a b c := ⟨_, rfl⟩
  rw [← hFR]
  unfold countA at hFR
  by_cases c1 : c = 1
  · subst c1
    rw [if_pos rfl] at hFR
    obtain ⟨n, d, o⟩ := FR
    have HK := am_ (show fracA (b - a) 360 = (n, d, o) from hFR.symm)
    have HKA := am_ (show (b - a).natAbs ≤ 4000000000000000000 from by omega)
    clear hFR ht hnb
    go_enter Try.func126, Try.ntmps126
    go_wp2_with (((with_reducible refine gate_dst (N := 6) rfl ?_); refine box_event ?hg (N := 6) ?hd (cs := #[.int .i64 0, .int .i64 0]) (t := 24) ?hr ?_; (case hd => rfl); (case hg => rfl); (case hr => first | (go_simp; done) | (go_simp; rfl))); intro g1 hg w_g1 hbox hb; have n_ := am_ (below_step (by repeat first | (with_reducible first | exact HB.out | apply ba_ | apply bn_ | apply bd_) | exact HB.out) hb); have BKg1 := am_ hbox; have GEg1 := am_ (show w.heap.size ≤ g1 from by rw [hg]; exact below_size (by repeat first | (with_reducible first | exact HB.out | apply ba_ | apply bn_ | apply bd_) | exact HB.out)); clear HB ; have HB := n_; clear n_ hb hbox hg)
    refine (fracI_c _ _ HKA.out (by decide) (by decide) _).mono ?_
    rw [HK.out]
    rintro e w1 ⟨rfl, hb⟩
    replace BKg1 := am_ (blk_below (blk_below BKg1.out (by repeat first | exact Below.refl _ _ | apply ba_ | apply bn_ | apply bd_)) hb); replace HB := am_ (below_step (by repeat first | (with_reducible first | exact HB.out | apply ba_ | apply bn_ | apply bd_) | exact HB.out) hb); clear hb
    have yg1_0 : w1.cell? ⟨g1, 0, none⟩ = some (.int .i64 0) := (blk_cell BKg1.out 0).trans rfl; have fg1_0 := blk_frozen BKg1.out 0; have yg1_1 : w1.cell? ⟨g1, 1, none⟩ = some (.int .i64 0) := (blk_cell BKg1.out 1).trans rfl; have fg1_1 := blk_frozen BKg1.out 1
    go_wp2
    refine bodyPost_ret (results_ct rfl _ _ g1 24 #[.int .i64 n, .int .i64 d] (0, 0) _ rfl (by (with_reducible repeat first | refine kn_ ?_ _ | refine kd_ ?_ | refine ka_ ?_ _); refine blk_put (cs := #[.int .i64 n, .int .i64 0]) ?_ 1 _ rfl; (with_reducible repeat first | refine kn_ ?_ _ | refine kd_ ?_ | refine ka_ ?_ _); refine blk_put (cs := #[.int .i64 0, .int .i64 0]) ?_ 0 _ rfl; (with_reducible repeat first | refine kn_ ?_ _ | refine kd_ ?_ | refine ka_ ?_ _); exact BKg1.out) Try.underlying24 rfl (by kernel_rfl)) rfl ?_
    exact ⟨rfl, (by repeat first | (with_reducible first | exact HB.out | apply ba_ | apply bn_ | apply bd_ | refine below_set ?_ GEg1.out) | exact HB.out)⟩
  rw [if_neg c1] at hFR
  have cb1 : (c == 1) = false := by rw [beq_eq_false_iff_ne]; exact c1
  by_cases c2 : c = 2
  · subst c2
    rw [if_pos rfl] at hFR
    clear c1 cb1
    obtain ⟨n, d, o⟩ := FR
    have HK := am_ (show fracA (b - a) 365 = (n, d, o) from hFR.symm)
    have HKA := am_ (show (b - a).natAbs ≤ 4000000000000000000 from by omega)
    clear hFR ht hnb
    go_enter Try.func126, Try.ntmps126
    go_wp2_with (((with_reducible refine gate_dst (N := 6) rfl ?_); refine box_event ?hg (N := 6) ?hd (cs := #[.int .i64 0, .int .i64 0]) (t := 24) ?hr ?_; (case hd => rfl); (case hg => rfl); (case hr => first | (go_simp; done) | (go_simp; rfl))); intro g1 hg w_g1 hbox hb; have n_ := am_ (below_step (by repeat first | (with_reducible first | exact HB.out | apply ba_ | apply bn_ | apply bd_) | exact HB.out) hb); have BKg1 := am_ hbox; have GEg1 := am_ (show w.heap.size ≤ g1 from by rw [hg]; exact below_size (by repeat first | (with_reducible first | exact HB.out | apply ba_ | apply bn_ | apply bd_) | exact HB.out)); clear HB ; have HB := n_; clear n_ hb hbox hg)
    refine (fracI_c _ _ HKA.out (by decide) (by decide) _).mono ?_
    rw [HK.out]
    rintro e w1 ⟨rfl, hb⟩
    replace BKg1 := am_ (blk_below (blk_below BKg1.out (by repeat first | exact Below.refl _ _ | apply ba_ | apply bn_ | apply bd_)) hb); replace HB := am_ (below_step (by repeat first | (with_reducible first | exact HB.out | apply ba_ | apply bn_ | apply bd_) | exact HB.out) hb); clear hb
    have yg1_0 : w1.cell? ⟨g1, 0, none⟩ = some (.int .i64 0) := (blk_cell BKg1.out 0).trans rfl; have fg1_0 := blk_frozen BKg1.out 0; have yg1_1 : w1.cell? ⟨g1, 1, none⟩ = some (.int .i64 0) := (blk_cell BKg1.out 1).trans rfl; have fg1_1 := blk_frozen BKg1.out 1
    go_wp2
    refine bodyPost_ret (results_ct rfl _ _ g1 24 #[.int .i64 n, .int .i64 d] (0, 0) _ rfl (by (with_reducible repeat first | refine kn_ ?_ _ | refine kd_ ?_ | refine ka_ ?_ _); refine blk_put (cs := #[.int .i64 n, .int .i64 0]) ?_ 1 _ rfl; (with_reducible repeat first | refine kn_ ?_ _ | refine kd_ ?_ | refine ka_ ?_ _); refine blk_put (cs := #[.int .i64 0, .int .i64 0]) ?_ 0 _ rfl; (with_reducible repeat first | refine kn_ ?_ _ | refine kd_ ?_ | refine ka_ ?_ _); exact BKg1.out) Try.underlying24 rfl (by kernel_rfl)) rfl ?_
    exact ⟨rfl, (by repeat first | (with_reducible first | exact HB.out | apply ba_ | apply bn_ | apply bd_ | refine below_set ?_ GEg1.out) | exact HB.out)⟩
  rw [if_neg c2] at hFR
  have cb2 : (c == 2) = false := by rw [beq_eq_false_iff_ne]; exact c2
  by_cases c3 : c = 3
  · subst c3
    rw [if_pos rfl] at hFR
    clear c1 cb1 c2 cb2
    obtain ⟨TH, hTH⟩ : ∃ T, T = thirtyA a b := ⟨_, rfl⟩
    rw [← hTH] at hFR ht
    have HA := am_ ha
    have HBB := am_ hb
    obtain ⟨y, m, d1, y', m', d1', x, x', e1, e2, e3, e4, e5, b1, b2, b3, b4, b5, b6, b7, b8⟩ := thirty_parts ha hb
    rw [e5] at hTH
    obtain ⟨n, d, o⟩ := FR
    have HK := am_ (show fracA (TH) 360 = (n, d, o) from hFR.symm)
    have HKA := am_ (show (TH).natAbs ≤ 4000000000000000000 from by omega)
    clear hFR ht hnb
    have HE1 := am_ e1
    have HE2 := am_ e2
    have HTH := am_ hTH
    have hm1 : (d1 ≤ 30 ∧ x = d1) ∨ (30 ≤ d1 ∧ x = 30) := by rw [← e3]; unfold minI; split <;> omega
    have hm2 : (d1' ≤ 30 ∧ x' = d1') ∨ (30 ≤ d1' ∧ x' = 30) := by rw [← e4]; unfold minI; split <;> omega
    have HM1 := am_ hm1
    have HM2 := am_ hm2
    clear hm1 hm2 ha hb hab e1 e2 e3 e4 e5 hTH hc
    go_enter Try.func126, Try.ntmps126
    go_wp2_with (((with_reducible refine gate_dst (N := 6) rfl ?_); refine box_event ?hg (N := 6) ?hd (cs := #[.int .i64 0, .int .i64 0]) (t := 24) ?hr ?_; (case hd => rfl); (case hg => rfl); (case hr => first | (go_simp; done) | (go_simp; rfl))); intro g1 hg w_g1 hbox hb; have n_ := am_ (below_step (by repeat first | (with_reducible first | exact HB.out | apply ba_ | apply bn_ | apply bd_) | exact HB.out) hb); have BKg1 := am_ hbox; have GEg1 := am_ (show w.heap.size ≤ g1 from by rw [hg]; exact below_size (by repeat first | (with_reducible first | exact HB.out | apply ba_ | apply bn_ | apply bd_) | exact HB.out)); clear HB ; have HB := n_; clear n_ hb hbox hg)
    refine (dateI_c a HA.out _).mono ?_
    rw [HE1.out]
    rintro e w2 ⟨rfl, hb⟩
    replace BKg1 := am_ (blk_below (blk_below BKg1.out (by repeat first | exact Below.refl _ _ | apply ba_ | apply bn_ | apply bd_)) hb); replace HB := am_ (below_step (by repeat first | (with_reducible first | exact HB.out | apply ba_ | apply bn_ | apply bd_) | exact HB.out) hb); clear hb
    go_wp2_with fail
    refine (dateI_c b HBB.out _).mono ?_
    rw [HE2.out]
    rintro e w3 ⟨rfl, hb⟩
    replace BKg1 := am_ (blk_below (blk_below BKg1.out (by repeat first | exact Below.refl _ _ | apply ba_ | apply bn_ | apply bd_)) hb); replace HB := am_ (below_step (by repeat first | (with_reducible first | exact HB.out | apply ba_ | apply bn_ | apply bd_) | exact HB.out) hb); clear hb
    go_wp2_with (first
      | (((with_reducible refine gate_dst (N := 8) rfl ?_); refine box_event ?hg (N := 8) ?hd (cs := #[.int .i64 0, .int .i64 0, .int .i64 0]) (t := 125) ?hr ?_; (case hd => rfl); (case hg => rfl); (case hr => first | (go_simp; done) | (go_simp; rfl))); intro g2 hg w_g2 hbox hb; have n_ := am_ (below_step (by repeat first | (with_reducible first | exact HB.out | apply ba_ | apply bn_ | apply bd_ | refine below_set ?_ GEg1.out) | exact HB.out) hb); have m_g1 := am_ (blk_below (blk_below BKg1.out (by repeat first | exact Below.refl _ _ | apply ba_ | apply bn_ | apply bd_)) hb); have NEg1_g2 := am_ (show g1 ≠ g2 from by rw [hg]; exact Nat.ne_of_lt (blk_lt (blk_below BKg1.out (by repeat first | exact Below.refl _ _ | apply ba_ | apply bn_ | apply bd_)))); have NEg2_g1 := am_ (Ne.symm NEg1_g2.out); have BKg2 := am_ hbox; have GEg2 := am_ (show w.heap.size ≤ g2 from by rw [hg]; exact below_size (by repeat first | (with_reducible first | exact HB.out | apply ba_ | apply bn_ | apply bd_ | refine below_set ?_ GEg1.out) | exact HB.out)); clear HB BKg1; have HB := n_; clear n_ hb hbox hg; have BKg1 := m_g1; clear m_g1)
      | ((((with_reducible refine gate_dst (N := 9) rfl ?_); refine box_event ?hg (N := 9) ?hd (cs := #[.int .i64 0, .int .i64 0, .int .i64 0]) (t := 125) ?hr ?_; (case hd => rfl); (case hg => rfl); (case hr => first | (go_simp; done) | (go_simp; rfl))); intro g3 hg w_g3 hbox hb; have n_ := am_ (below_step (by repeat first | (with_reducible first | exact HB.out | apply ba_ | apply bn_ | apply bd_ | refine below_set ?_ GEg1.out | refine below_set ?_ GEg2.out) | exact HB.out) hb); have m_g1 := am_ (blk_below (blk_below BKg1.out (by repeat first | exact Below.refl _ _ | apply ba_ | apply bn_ | apply bd_)) hb); have NEg1_g3 := am_ (show g1 ≠ g3 from by rw [hg]; exact Nat.ne_of_lt (blk_lt (blk_below BKg1.out (by repeat first | exact Below.refl _ _ | apply ba_ | apply bn_ | apply bd_)))); have NEg3_g1 := am_ (Ne.symm NEg1_g3.out); have m_g2 := am_ (blk_below (blk_below BKg2.out (by repeat first | exact Below.refl _ _ | apply ba_ | apply bn_ | apply bd_)) hb); have NEg2_g3 := am_ (show g2 ≠ g3 from by rw [hg]; exact Nat.ne_of_lt (blk_lt (blk_below BKg2.out (by repeat first | exact Below.refl _ _ | apply ba_ | apply bn_ | apply bd_)))); have NEg3_g2 := am_ (Ne.symm NEg2_g3.out); have BKg3 := am_ hbox; have GEg3 := am_ (show w.heap.size ≤ g3 from by rw [hg]; exact below_size (by repeat first | (with_reducible first | exact HB.out | apply ba_ | apply bn_ | apply bd_ | refine below_set ?_ GEg1.out | refine below_set ?_ GEg2.out) | exact HB.out)); clear HB BKg1 BKg2; have HB := n_; clear n_ hb hbox hg; have BKg1 := m_g1; clear m_g1; have BKg2 := m_g2; clear m_g2); have yg2_0 : w_g3.cell? ⟨g2, 0, none⟩ = some (.int .i64 0) := (blk_cell BKg2.out 0).trans rfl; have fg2_0 := blk_frozen BKg2.out 0; have yg2_1 : w_g3.cell? ⟨g2, 1, none⟩ = some (.int .i64 0) := (blk_cell BKg2.out 1).trans rfl; have fg2_1 := blk_frozen BKg2.out 1; have yg2_2 : w_g3.cell? ⟨g2, 2, none⟩ = some (.int .i64 0) := (blk_cell BKg2.out 2).trans rfl; have fg2_2 := blk_frozen BKg2.out 2; have yg3_0 : w_g3.cell? ⟨g3, 0, none⟩ = some (.int .i64 0) := (blk_cell BKg3.out 0).trans rfl; have fg3_0 := blk_frozen BKg3.out 0; have yg3_1 : w_g3.cell? ⟨g3, 1, none⟩ = some (.int .i64 0) := (blk_cell BKg3.out 1).trans rfl; have fg3_1 := blk_frozen BKg3.out 1; have yg3_2 : w_g3.cell? ⟨g3, 2, none⟩ = some (.int .i64 0) := (blk_cell BKg3.out 2).trans rfl; have fg3_2 := blk_frozen BKg3.out 2; have hn1 := NEg2_g3.out; have hn2 := NEg3_g2.out))
    all_goals (
      have hm1 := HM1.out
      have hm2 := HM2.out
      have hth := HTH.out
      refine (fracI_e TH (show _ = TH from by omega) 360 HKA.out (by decide) (by decide) _).mono ?_
      rw [HK.out]
      rintro e w1 ⟨rfl, hb⟩
      have n_ := am_ (blk_below (g := g1) (o := .cells #[.int .i64 0, .int .i64 0] 24 (0, 0)) (by repeat (with_reducible first | exact BKg1.out | refine kn_ ?_ _ | refine kd_ ?_ | refine ka_ ?_ _ | refine kf_ ?_ NEg1_g2.out _ | refine kf_ ?_ NEg1_g3.out _)) hb)
      have m_ := am_ (below_step (by repeat first | (with_reducible first | exact HB.out | apply ba_ | apply bn_ | apply bd_ | refine below_set ?_ GEg2.out | refine below_set ?_ GEg3.out) | exact HB.out) hb)
      clear BKg1 HB
      have BKg1 := n_
      have HB := m_
      clear n_ m_ hb BKg2 BKg3
      have yg1_0 : w1.cell? ⟨g1, 0, none⟩ = some (.int .i64 0) := (blk_cell BKg1.out 0).trans rfl; have fg1_0 := blk_frozen BKg1.out 0; have yg1_1 : w1.cell? ⟨g1, 1, none⟩ = some (.int .i64 0) := (blk_cell BKg1.out 1).trans rfl; have fg1_1 := blk_frozen BKg1.out 1
      go_wp2
      refine bodyPost_ret (results_ct rfl _ _ g1 24 #[.int .i64 n, .int .i64 d] (0, 0) _ rfl (by (with_reducible repeat first | refine kn_ ?_ _ | refine kd_ ?_ | refine ka_ ?_ _); refine blk_put (cs := #[.int .i64 n, .int .i64 0]) ?_ 1 _ rfl; (with_reducible repeat first | refine kn_ ?_ _ | refine kd_ ?_ | refine ka_ ?_ _); refine blk_put (cs := #[.int .i64 0, .int .i64 0]) ?_ 0 _ rfl; (with_reducible repeat first | refine kn_ ?_ _ | refine kd_ ?_ | refine ka_ ?_ _); exact BKg1.out) Try.underlying24 rfl (by kernel_rfl)) rfl ?_
      exact ⟨rfl, (by repeat first | (with_reducible first | exact HB.out | apply ba_ | apply bn_ | apply bd_ | refine below_set ?_ GEg1.out) | exact HB.out)⟩)
  rw [if_neg c3] at hFR
  have cb3 : (c == 3) = false := by rw [beq_eq_false_iff_ne]; exact c3
  clear c1 c2 c3 ht hc
  have HS := am_ (show a ≤ a ∧ 0 ≤ a ∧ a ≤ b ∧ 0 ≤ (0 : Int) ∧ 0 + 366 * (b - a) ≤ 20000000 ∧ fracA (0 + numA a (b - a).toNat) 133590 = FR from ⟨by omega, by omega, hab, by omega, by omega, by rw [Int.zero_add]; exact hFR.symm⟩)
  have hfld := fldDate0
  have hb1 := hb.2
  obtain ⟨n, d, o⟩ := FR
  clear hFR ha hb hab hnb
  go_enter Try.func126, Try.ntmps126
  go_wp2_with (((with_reducible refine gate_dst (N := 6) rfl ?_); refine box_event ?hg (N := 6) ?hd (cs := #[.int .i64 0, .int .i64 0]) (t := 24) ?hr ?_; (case hd => rfl); (case hg => rfl); (case hr => first | (go_simp; done) | (go_simp; rfl))); intro g1 hg w_g1 hbox hb; have n_ := am_ (below_step (by repeat first | (with_reducible first | exact HB.out | apply ba_ | apply bn_ | apply bd_) | exact HB.out) hb); have BKg1 := am_ hbox; have GEg1 := am_ (show w.heap.size ≤ g1 from by rw [hg]; exact below_size (by repeat first | (with_reducible first | exact HB.out | apply ba_ | apply bn_ | apply bd_) | exact HB.out)); clear HB ; have HB := n_; clear n_ hb hbox hg)
  go_loopw [10, 11] (fun v10 v11 wr => ∃ s x : Int, v10 = .int .i64 s ∧ v11 = .int .i64 x ∧ Aside0 (a ≤ x ∧ 0 ≤ x ∧ x ≤ b ∧ 0 ≤ s ∧ s + 366 * (b - x) ≤ 20000000 ∧ fracA (s + numA x (b - x).toNat) 133590 = (n, d, o)) ∧ Aside0 (wr.heap[g1]? = some (.cells #[.int .i64 0, .int .i64 0] 24 (0, 0))) ∧ Aside0 (Below w.heap.size w wr)) (fun _ v11 _ => (b - intOf v11).toNat)
  case atStart => exact ⟨0, a, rfl, rfl, HS, ⟨(by (with_reducible repeat first | refine kn_ ?_ _ | refine kd_ ?_ | refine ka_ ?_ _); exact BKg1.out)⟩, ⟨(by repeat first | (with_reducible first | exact HB.out | apply ba_ | apply bn_ | apply bd_) | exact HB.out)⟩⟩
  case round =>
    clear HS BKg1 HB
    obtain ⟨s, x, rfl, rfl, HS, BKg1, HB⟩ := hrel
    obtain ⟨i1, i2, i3, i4, i5, i6⟩ := HS.out
    by_cases hxb : x < b
    · have cb : decide (x < b) = true := decide_eq_true hxb
      have HX := am_ (show 0 ≤ x ∧ x ≤ 36524 from by omega)
      obtain ⟨Y, hY⟩ : ∃ Y, Y = (dateC x).1 := ⟨_, rfl⟩
      have hYb := (dateC_is x (by omega)).1
      have HNS := am_ (show numA x (b - x).toNat = wdA x + numA (x + 1) (b - (x + 1)).toNat from by rw [show (b - x).toNat = (b - (x + 1)).toNat + 1 from by omega, num_step])
      have HWD := am_ (show wdA x = if Y % 4 = 0 then 365 else 366 from by rw [hY]; rfl)
      have HI6 := am_ i6
      rw [← hY] at hYb
      have HY := am_ hY
      have hm4 : Int.tmod Y 4 = Y % 4 := Int.tmod_eq_emod_of_nonneg (by omega)
      clear i6 hY
      go_wp2_with fail
      refine (dateI_c x HX.out _).mono ?_
      rw [← HY.out]
      rintro e w2 ⟨rfl, hb⟩
      replace BKg1 := am_ (blk_below (blk_below BKg1.out (by repeat first | exact Below.refl _ _ | apply ba_ | apply bn_ | apply bd_)) hb); replace HB := am_ (below_step (by repeat first | (with_reducible first | exact HB.out | apply ba_ | apply bn_ | apply bd_) | exact HB.out) hb); clear hb
      by_cases c4 : Y % 4 = 0
      · have hc4 : (Y % 4 == 0) = true := by rw [beq_iff_eq]; exact c4
        have HS2 := am_ (show a ≤ x + 1 ∧ 0 ≤ x + 1 ∧ x + 1 ≤ b ∧ 0 ≤ s + 365 ∧ s + 365 + 366 * (b - (x + 1)) ≤ 20000000 ∧ fracA (s + 365 + numA (x + 1) (b - (x + 1)).toNat) 133590 = (n, d, o) from ⟨by omega, by omega, by omega, by omega, by omega, by rw [← HI6.out, HNS.out, HWD.out, if_pos c4, Int.add_assoc]⟩)
        clear c4
        go_wp2
        go_roundw
        case rel => exact ⟨s + 365, x + 1, by go_num, by go_num, HS2, ⟨(by (with_reducible repeat first | refine kn_ ?_ _ | refine kd_ ?_ | refine ka_ ?_ _); exact BKg1.out)⟩, ⟨(by repeat first | (with_reducible first | exact HB.out | apply ba_ | apply bn_ | apply bd_) | exact HB.out)⟩⟩
        case measure => simp [intOf]; omega
      · have hc4 : (Y % 4 == 0) = false := by rw [beq_eq_false_iff_ne]; exact c4
        have HS2 := am_ (show a ≤ x + 1 ∧ 0 ≤ x + 1 ∧ x + 1 ≤ b ∧ 0 ≤ s + 366 ∧ s + 366 + 366 * (b - (x + 1)) ≤ 20000000 ∧ fracA (s + 366 + numA (x + 1) (b - (x + 1)).toNat) 133590 = (n, d, o) from ⟨by omega, by omega, by omega, by omega, by omega, by rw [← HI6.out, HNS.out, HWD.out, if_neg c4, Int.add_assoc]⟩)
        clear c4
        go_wp2
        go_roundw
        case rel => exact ⟨s + 366, x + 1, by go_num, by go_num, HS2, ⟨(by (with_reducible repeat first | refine kn_ ?_ _ | refine kd_ ?_ | refine ka_ ?_ _); exact BKg1.out)⟩, ⟨(by repeat first | (with_reducible first | exact HB.out | apply ba_ | apply bn_ | apply bd_) | exact HB.out)⟩⟩
        case measure => simp [intOf]; omega
    · have cb : decide (x < b) = false := decide_eq_false hxb
      rw [show (b - x).toNat = 0 from by omega, numA, Int.add_zero] at i6
      have HK := am_ (show fracA s 133590 = (n, d, o) from i6)
      have HKA := am_ (show s.natAbs ≤ 4000000000000000000 from by omega)
      clear i6
      go_wp2_with fail
      refine (fracI_c _ _ HKA.out (by decide) (by decide) _).mono ?_
      rw [HK.out]
      rintro e w1 ⟨rfl, hb⟩
      replace BKg1 := am_ (blk_below (blk_below BKg1.out (by repeat first | exact Below.refl _ _ | apply ba_ | apply bn_ | apply bd_)) hb); replace HB := am_ (below_step (by repeat first | (with_reducible first | exact HB.out | apply ba_ | apply bn_ | apply bd_) | exact HB.out) hb); clear hb
      have yg1_0 : w1.cell? ⟨g1, 0, none⟩ = some (.int .i64 0) := (blk_cell BKg1.out 0).trans rfl; have fg1_0 := blk_frozen BKg1.out 0; have yg1_1 : w1.cell? ⟨g1, 1, none⟩ = some (.int .i64 0) := (blk_cell BKg1.out 1).trans rfl; have fg1_1 := blk_frozen BKg1.out 1
      go_wp2
      refine bodyPost_ret (results_ct rfl _ _ g1 24 #[.int .i64 n, .int .i64 d] (0, 0) _ rfl (by (with_reducible repeat first | refine kn_ ?_ _ | refine kd_ ?_ | refine ka_ ?_ _); refine blk_put (cs := #[.int .i64 n, .int .i64 0]) ?_ 1 _ rfl; (with_reducible repeat first | refine kn_ ?_ _ | refine kd_ ?_ | refine ka_ ?_ _); refine blk_put (cs := #[.int .i64 0, .int .i64 0]) ?_ 0 _ rfl; (with_reducible repeat first | refine kn_ ?_ _ | refine kd_ ?_ | refine ka_ ?_ _); exact BKg1.out) Try.underlying24 rfl (by kernel_rfl)) rfl ?_
      exact ⟨rfl, (by repeat first | (with_reducible first | exact HB.out | apply ba_ | apply bn_ | apply bd_ | refine below_set ?_ GEg1.out) | exact HB.out)⟩
end Go.Proofs.Ytacfepaemphdgaa.O
