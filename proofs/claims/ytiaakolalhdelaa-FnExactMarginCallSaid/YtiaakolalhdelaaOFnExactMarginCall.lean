/- The program's MarginCall, and the reference's, answer as one plain function does. No other condition. -/
import Derived.Test.YtiaakolalhdelaaPureFnExactMarginCall
namespace Go.Proofs.Ytiaakolalhdelaa.O
open Go.RowKit Go.Proofs.YtiaakolalhdelaaW.PrintWords Go.Proofs.YtiaakolalhdelaaW.PrintLast Go.Proofs.YtiaakolalhdelaaW.PrintMore Go.Proofs.Ytiaakolalhdelaa.PL17MH Go.Proofs.Ytiaakolalhdelaa.EvKit Go.Proofs.Ytiaakolalhdelaa.Pure
set_option linter.unusedVariables false
set_option linter.unusedSimpArgs false
attribute [local go_sem] max2_int min2_int max_two min_two max_three min_three max_four min_four
theorem am_ {p : Prop} (h : p) : Aside0 p := ⟨h⟩
theorem db_ {w w' : World} (h : Drawn0 w w') : Below w.heap.size w w' := Drawn0.below h
/-- A number of rounds at which a printed function answers. -/
theorem roundsOf {α : Type} {g : Nat → Option α} {r : α} (h : Ev g r) : ∃ k, g k = some r := Ev.rounds h
theorem cellsOf {w : World} {b o : Nat} {xs : List Int} (h : (Kd.int .i64).C w (some ⟨b, o, none⟩) xs.length xs) : ∀ j, j < xs.length → w.cell? ⟨b, o + j, none⟩ = some (.int .i64 xs[j]!) := by
  intro j hj
  obtain ⟨ad, e, hc⟩ := Kd.at_int h (j : Int) (by omega) (by omega)
  injection e with e
  subst e
  rw [add_at] at hc
  rw [Int.toNat_natCast] at hc
  rw [hc, rd, Int.toNat_natCast, List.getD_eq_getElem?_getD, List.getElem?_eq_getElem hj, List.getElem!_eq_getElem?_getD, List.getElem?_eq_getElem hj]
  rfl
/-- Between two numbers. -/
def Iv (a b : Nat) (k : Nat) : Prop := a ≤ k ∧ k < b
theorem R_iv {α : Type} {d : Kd α} {e base : Nat} {ok : Nat → Prop} {w : World} {v : Value} {xs : List α} (h : d.R e w base ok v xs) : d.R e w base (Iv base w.heap.size) v xs := Kd.R_mono (Kd.R_bound h) (fun _ hk => ⟨hk.2.1, hk.2.2.1⟩)
/-- Where a row of one's own that is not empty begins. -/
theorem R_head {α : Type} {d : Kd α} {e base : Nat} {ok : Nat → Prop} {w : World} {A : Option Addr} {n c : Nat} {xs : List α} (h : d.R e w base ok (.slice A n c) xs) (hp : 0 < xs.length) : ∃ b, A = some ⟨b, 0, none⟩ := by
  obtain ⟨g, cap, e1, _⟩ := Kd.R_form h hp
  injection e1 with e1
  exact ⟨g, e1⟩
theorem R_ivw {α : Type} {d : Kd α} {e base a b : Nat} {ok : Nat → Prop} {w : World} {v : Value} {xs : List α} (h : d.R e w base ok v xs) (ha : a ≤ base) (hb : b ≤ base) : d.R e w b (Iv a w.heap.size) v xs := Kd.R_lower (Kd.R_mono (Kd.R_bound h) (fun _ hk => ⟨Nat.le_trans ha hk.2.1, hk.2.2.1⟩)) hb
/-- A row whose elements hold no rows lies in its own block alone. -/
theorem R_flat {α : Type} {d : Kd α} {e base : Nat} {ok ok' : Nat → Prop} {w : World} {v : Value} {xs : List α} (hf : ∀ (w : World) (b : Nat) (p q : Nat → Prop) x cs, d.M w b p x cs → d.M w b q x cs) (h : d.R e w base ok v xs) (h0 : ∀ k, v.ownBlock = some k → ok' k) : d.R e w base ok' v xs := ⟨h0, h.2.imp_ (fun _ _ hp => hf _ _ _ _ _ _ hp)⟩
theorem flat_int (w : World) (b : Nat) (p q : Nat → Prop) (x : Int) (cs : List Value) (h : (Kd.int .i64).M w b p x cs) : (Kd.int .i64).M w b q x cs := h
theorem cellsOfD {w : World} {b o m : Nat} {xs : List Int} (h : (Kd.int .i64).C w (some ⟨b, o, none⟩) m xs) : ∀ j, j < xs.length → w.cell? ⟨b, o + j, none⟩ = some (.int .i64 (xs.getD j 0)) := by
  intro j hj
  have hl := Kd.C_len h
  obtain ⟨ad, e, hc⟩ := Kd.at_int h (j : Int) (by omega) (by omega)
  injection e with e
  subst e
  rw [add_at, Int.toNat_natCast] at hc
  exact hc
theorem R_C {α : Type} {d : Kd α} {e base : Nat} {ok : Nat → Prop} {w : World} {A : Option Addr} {n c : Nat} {xs : List α} (h : d.R e w base ok (.slice A n c) xs) : d.C w A n xs := by
  obtain ⟨rfl, _, hc⟩ := Kd.R_reads' h
  exact hc
theorem R_cap {α : Type} {d : Kd α} {e base : Nat} {ok : Nat → Prop} {w : World} {A : Option Addr} {n c : Nat} {xs : List α} (h : d.R e w base ok (.slice A n c) xs) : n ≤ c := (Kd.R_reads' h).2.1
theorem R_same {α : Type} {d : Kd α} {e base : Nat} {ok : Nat → Prop} {w w1 : World} {v : Value} {xs : List α} (h : d.R e w base ok v xs) (hg : w.grownBy w1 none) : d.R e w1 base ok v xs := Kd.R_grown h hg (fun _ _ e => by cases e)
theorem R_block {α : Type} {d : Kd α} {e base g n c : Nat} {ok : Nat → Prop} {w : World} {xs : List α} (h : d.R e w base ok (.slice (some ⟨g, 0, none⟩) n c) xs) (hp : 0 < n) : ∃ cells, w.heap[g]? = some (.cells cells e (0, 0)) := by
  obtain ⟨e1, _, _⟩ := Kd.R_reads' h
  obtain ⟨g', cap, e2, _, _, cells, h3⟩ := Kd.R_form h (by omega)
  injection e2 with e2 _ _
  injection e2 with e2
  injection e2 with e2
  subst e2
  exact ⟨cells, h3⟩
theorem ba_ {w W : World} (h : Below w.heap.size w W) (o : Obj) : Below w.heap.size w (W.alloc o) := below_alloc h o
theorem bn_ {B : Nat} {w W : World} (h : Below B w W) (n : Nat) : Below B w (W.drewN n) := pw_below_drewN h n
theorem bd_ {B : Nat} {w W : World} (h : Below B w W) : Below B w W.drew := below_drew1 h
theorem ca_ {α : Type} {d : Kd α} {w : World} {xs : List α} {A : Option Addr} {n : Nat} (h : d.C w A n xs) (o : Obj) : d.C (w.alloc o) A n xs := Kd.C_alloc h o
theorem cn_ {α : Type} {d : Kd α} {w : World} {xs : List α} {A : Option Addr} {n : Nat} (h : d.C w A n xs) (m : Nat) : d.C (w.drewN m) A n xs := Kd.C_drewN h m
theorem cd_ {α : Type} {d : Kd α} {w : World} {xs : List α} {A : Option Addr} {n : Nat} (h : d.C w A n xs) : d.C w.drew A n xs := Kd.C_drew h
theorem ra_ {α : Type} {d : Kd α} {w : World} {xs : List α} {e : TypeId} {base : Nat} {ok : Nat → Prop} {v : Value} (h : d.R e w base ok v xs) (o : Obj) : d.R e (w.alloc o) base ok v xs := Kd.R_alloc h o
theorem rn_ {α : Type} {d : Kd α} {w : World} {xs : List α} {e : TypeId} {base : Nat} {ok : Nat → Prop} {v : Value} (h : d.R e w base ok v xs) (m : Nat) : d.R e (w.drewN m) base ok v xs := Kd.R_drewN h m
theorem rd_ {α : Type} {d : Kd α} {w : World} {xs : List α} {e : TypeId} {base : Nat} {ok : Nat → Prop} {v : Value} (h : d.R e w base ok v xs) : d.R e w.drew base ok v xs := Kd.R_drew h
theorem ka_ {w : World} {g : Nat} {o : Obj} (h : w.heap[g]? = some o) (o' : Obj) : (w.alloc o').heap[g]? = some o := blk_alloc h o'
theorem kd_ {w : World} {g : Nat} {o : Obj} (h : w.heap[g]? = some o) : w.drew.heap[g]? = some o := blk_drew h
theorem kn_ {w : World} {g : Nat} {o : Obj} (h : w.heap[g]? = some o) (n : Nat) : (w.drewN n).heap[g]? = some o := blk_drewN h n
theorem kf_ {w : World} {g : Nat} {t : TypeId} {cs : Array Value} (h : w.heap[g]? = some (.cells cs t (0, 0))) {p : Addr} (hp : g ≠ p.block) (u : Value) : (w.setCell p u).heap[g]? = some (.cells cs t (0, 0)) := blk_far h hp u
set_option maxHeartbeats 8000000 in
set_option maxRecDepth 100000 in
theorem callS_c (e h i t m r : Int) (w : World) :
    Calls Try.prog 22 #[.int .i64 e, .int .i64 h, .agg #[.int .i64 i, .int .i64 t, .int .i64 m, .int .i64 r]] w fun e2 w' => e2 = .returned (.tuple #[.int .i64 (callA e h i t m r).1, .bool (callA e h i t m r).2]) ∧ Below w.heap.size w w' := by
  have HB := am_ (Below.refl w.heap.size w)
  have hq := specRequired_eq e i t m r
  have hin := l1In_eq h 0 1000000000
  by_cases c : reqOk e i t m r
  · have hbr := max0_bd (e + i - t)
    have hok := c.2.1
    obtain ⟨⟨i0, i1⟩, ⟨t0, t1⟩, ⟨m0, m1⟩, ⟨r0, r1⟩⟩ := hok
    have hc2 := c.2.2
    rw [reqA_yes c] at hq
    obtain ⟨RQ, hRQ⟩ : ∃ q, q = max0 (e + i - t) := ⟨_, rfl⟩
    have hA : callA e h i t m r = if 0 ≤ h ∧ h ≤ 1000000000 then callEnd (callN (RQ - h) r) m else (0, false) := by
      unfold callA
      by_cases ch : 0 ≤ h ∧ h ≤ 1000000000
      · rw [if_pos ⟨c, ch⟩, if_pos ch, hRQ]
      · rw [if_neg (fun g => ch g.2), if_neg ch]
    rw [← hRQ] at hq hbr
    have rq0 : 0 ≤ RQ := hbr.1
    have rq1 : RQ ≤ 1000000000 := hbr.2.1 hc2
    rw [hA]
    have HQ := am_ hq
    clear hq hbr hc2 hA hRQ c
    by_cases ch : 0 ≤ h ∧ h ≤ 1000000000
    · rw [if_pos ch]
      rw [decide_eq_true ch] at hin
      have HIN := am_ hin
      have h0 := ch.1
      have h1 := ch.2
      clear hin ch
      obtain ⟨d, hd_⟩ : ∃ d, RQ = d + h := ⟨RQ - h, by omega⟩
      subst hd_
      rw [show d + h - h = d from by omega]
      have hwd : IntKind.i64.wrap (d + h - h) = d := by rw [show d + h - h = d from by omega]; exact IntWalk.i64_in _ (by omega)
      obtain ⟨q1, n1, q2, n2, ⟨a1, a2, a3, a4, a5, a6⟩, hneg, hc1, hc2, hc3⟩ := call_parts d m r (by omega) ⟨r0, r1⟩
      have hrz : ¬ (r = 0) := by omega
      have hrz2 : ((r : Int) == 0) = false := by rw [beq_eq_false_iff_ne]; omega
      have hw1 : IntKind.i64.wrap (q1 * r) = n1 := by rw [a2]; exact IntWalk.i64_in _ (by omega)
      have hw1' : IntKind.i64.wrap q1 = q1 := IntWalk.i64_in _ (by omega)
      by_cases q : d < 0
      · have cd : decide (d < 0) = true := decide_eq_true q
        obtain ⟨b1, b2, b3, b4, b5, b6⟩ := hneg (by omega)
        have hN := hc1 (by omega)
        have hw2 : IntKind.i64.wrap (q2 * r) = n2 := by rw [b2]; exact IntWalk.i64_in _ (by omega)
        have hw2' : IntKind.i64.wrap q2 = q2 := IntWalk.i64_in _ (by omega)
        obtain ⟨N, hNe⟩ : ∃ N, N = -n2 := ⟨_, rfl⟩
        have hw3 : IntKind.i64.wrap (-n2) = N := by rw [hNe]; exact IntWalk.i64_in _ (by omega)
        rw [hN, ← hNe]
        have hNb : -1000000000 ≤ N ∧ N ≤ 0 := by omega
        clear hN hNe b2 b3 b4
        clear hneg hc1 hc2 hc3 a2 a3 a4 q
        have hm := l1Most_eq N (by omega)
        obtain ⟨M, hM⟩ : ∃ M, M = absI N := ⟨_, rfl⟩
        have HM := am_ (show spec_l1Most.f N (-N) = some M from by rw [hM]; exact hm)
        have hE : callEnd N m = if M < m then (0, true) else if -1000000000 ≤ N ∧ N ≤ 1000000000 then (N, true) else (0, false) := by rw [hM]; rfl
        rw [hE]
        clear hm hM hE
        have hw4 : IntKind.i64.wrap (-N) = -N := IntWalk.i64_in _ (by omega)
        by_cases q3 : M < m
        · rw [if_pos q3]
          have cm : decide (M < m) = true := decide_eq_true q3
          clear q3
          have ha := l2Amount_eq 0
          rw [decide_eq_true (by omega)] at ha
          have HA := am_ ha
          clear ha
          go_enter Try.func22, Try.ntmps22
          go_wp2_with ((((with_reducible refine gate_dst (N := 5) rfl ?_); refine box_event ?hg (N := 5) ?hd (cs := #[.int .i64 i, .int .i64 t, .int .i64 m, .int .i64 r]) (t := 26) ?hr ?_; (case hd => rfl); (case hg => rfl); (case hr => first | (go_simp; done) | (go_simp; rfl))); intro g1 hg w_g1 hbox hb; have n_ := am_ (below_step (by repeat first | (with_reducible first | exact HB.out | apply ba_ | apply bn_ | apply bd_) | exact HB.out) hb); have BKg1 := am_ hbox; have GEg1 := am_ (show w.heap.size ≤ g1 from by rw [hg]; exact below_size (by repeat first | (with_reducible first | exact HB.out | apply ba_ | apply bn_ | apply bd_) | exact HB.out)); clear HB ; have HB := n_; clear n_ hb hbox hg); have yg1_0 : w_g1.cell? ⟨g1, 0, none⟩ = some (.int .i64 i) := (blk_cell BKg1.out 0).trans rfl; have fg1_0 := blk_frozen BKg1.out 0; have yg1_1 : w_g1.cell? ⟨g1, 1, none⟩ = some (.int .i64 t) := (blk_cell BKg1.out 1).trans rfl; have fg1_1 := blk_frozen BKg1.out 1; have yg1_2 : w_g1.cell? ⟨g1, 2, none⟩ = some (.int .i64 m) := (blk_cell BKg1.out 2).trans rfl; have fg1_2 := blk_frozen BKg1.out 2; have yg1_3 : w_g1.cell? ⟨g1, 3, none⟩ = some (.int .i64 r) := (blk_cell BKg1.out 3).trans rfl; have fg1_3 := blk_frozen BKg1.out 3)
          clear yg1_0 fg1_0 yg1_1 fg1_1 yg1_2 fg1_2 yg1_3 fg1_3
          refine (spec_RequiredAmount.calls e i t m r _ _ _ HQ.out).mono ?_
          rintro e2 w1 ⟨rfl, hb⟩
          replace BKg1 := am_ (blk_below (blk_below BKg1.out (by repeat first | exact Below.refl _ _ | apply ba_ | apply bn_ | apply bd_)) hb); replace HB := am_ (below_step (by repeat first | (with_reducible first | exact HB.out | apply ba_ | apply bn_ | apply bd_) | exact HB.out) hb); clear hb
          have yg1_0 : w1.cell? ⟨g1, 0, none⟩ = some (.int .i64 i) := (blk_cell BKg1.out 0).trans rfl; have fg1_0 := blk_frozen BKg1.out 0; have yg1_1 : w1.cell? ⟨g1, 1, none⟩ = some (.int .i64 t) := (blk_cell BKg1.out 1).trans rfl; have fg1_1 := blk_frozen BKg1.out 1; have yg1_2 : w1.cell? ⟨g1, 2, none⟩ = some (.int .i64 m) := (blk_cell BKg1.out 2).trans rfl; have fg1_2 := blk_frozen BKg1.out 2; have yg1_3 : w1.cell? ⟨g1, 3, none⟩ = some (.int .i64 r) := (blk_cell BKg1.out 3).trans rfl; have fg1_3 := blk_frozen BKg1.out 3
          go_wp2_with fail
          clear yg1_0 fg1_0 yg1_1 fg1_1 yg1_2 fg1_2 yg1_3 fg1_3
          refine (spec_l1In.calls h 0 1000000000 true _ HIN.out).mono ?_
          rintro e2 w2 ⟨rfl, hb0⟩
          have hb := db_ hb0
          clear hb0
          replace BKg1 := am_ (blk_below (blk_below BKg1.out (by repeat first | exact Below.refl _ _ | apply ba_ | apply bn_ | apply bd_)) hb); replace HB := am_ (below_step (by repeat first | (with_reducible first | exact HB.out | apply ba_ | apply bn_ | apply bd_) | exact HB.out) hb); clear hb
          have yg1_0 : w2.cell? ⟨g1, 0, none⟩ = some (.int .i64 i) := (blk_cell BKg1.out 0).trans rfl; have fg1_0 := blk_frozen BKg1.out 0; have yg1_1 : w2.cell? ⟨g1, 1, none⟩ = some (.int .i64 t) := (blk_cell BKg1.out 1).trans rfl; have fg1_1 := blk_frozen BKg1.out 1; have yg1_2 : w2.cell? ⟨g1, 2, none⟩ = some (.int .i64 m) := (blk_cell BKg1.out 2).trans rfl; have fg1_2 := blk_frozen BKg1.out 2; have yg1_3 : w2.cell? ⟨g1, 3, none⟩ = some (.int .i64 r) := (blk_cell BKg1.out 3).trans rfl; have fg1_3 := blk_frozen BKg1.out 3
          go_wp2_with fail
          go_quiet (fail)
          go_wp2_with fail
          go_quiet (fail)
          go_wp2_with fail
          go_quiet ((go_at_call 57; refine (spec_l1Most.calls N (-N) M _ HM.out).mono ?_; rintro e_ w_ ⟨rfl, ⟨nd, rfl⟩⟩; first | exact ⟨rfl, _, World.drewN_drewN _ _ _⟩ | exact ⟨rfl, _, Eq.trans (World.drewN_drewN _ _ _) (congrArg (World.drewN _) (Nat.add_assoc _ _ _))⟩))
          go_wp2_with fail
          refine (spec_l2Amount.calls 0 true _ HA.out).mono ?_
          rintro e2 w4 ⟨rfl, ⟨nq2, rfl⟩⟩
          go_wp2
          go_ret2
          exact ⟨rfl, (by repeat first | (with_reducible first | exact HB.out | apply ba_ | apply bn_ | apply bd_ | refine below_set ?_ GEg1.out) | exact HB.out)⟩
        · rw [if_neg q3]
          have cm : decide (M < m) = false := decide_eq_false q3
          clear q3
          have ha := l2Amount_eq N
          by_cases q4 : -1000000000 ≤ N ∧ N ≤ 1000000000
          · rw [if_pos q4]
            rw [decide_eq_true q4] at ha
            have HA := am_ ha
            clear ha q4
            go_enter Try.func22, Try.ntmps22
            go_wp2_with ((((with_reducible refine gate_dst (N := 5) rfl ?_); refine box_event ?hg (N := 5) ?hd (cs := #[.int .i64 i, .int .i64 t, .int .i64 m, .int .i64 r]) (t := 26) ?hr ?_; (case hd => rfl); (case hg => rfl); (case hr => first | (go_simp; done) | (go_simp; rfl))); intro g1 hg w_g1 hbox hb; have n_ := am_ (below_step (by repeat first | (with_reducible first | exact HB.out | apply ba_ | apply bn_ | apply bd_) | exact HB.out) hb); have BKg1 := am_ hbox; have GEg1 := am_ (show w.heap.size ≤ g1 from by rw [hg]; exact below_size (by repeat first | (with_reducible first | exact HB.out | apply ba_ | apply bn_ | apply bd_) | exact HB.out)); clear HB ; have HB := n_; clear n_ hb hbox hg); have yg1_0 : w_g1.cell? ⟨g1, 0, none⟩ = some (.int .i64 i) := (blk_cell BKg1.out 0).trans rfl; have fg1_0 := blk_frozen BKg1.out 0; have yg1_1 : w_g1.cell? ⟨g1, 1, none⟩ = some (.int .i64 t) := (blk_cell BKg1.out 1).trans rfl; have fg1_1 := blk_frozen BKg1.out 1; have yg1_2 : w_g1.cell? ⟨g1, 2, none⟩ = some (.int .i64 m) := (blk_cell BKg1.out 2).trans rfl; have fg1_2 := blk_frozen BKg1.out 2; have yg1_3 : w_g1.cell? ⟨g1, 3, none⟩ = some (.int .i64 r) := (blk_cell BKg1.out 3).trans rfl; have fg1_3 := blk_frozen BKg1.out 3)
            clear yg1_0 fg1_0 yg1_1 fg1_1 yg1_2 fg1_2 yg1_3 fg1_3
            refine (spec_RequiredAmount.calls e i t m r _ _ _ HQ.out).mono ?_
            rintro e2 w1 ⟨rfl, hb⟩
            replace BKg1 := am_ (blk_below (blk_below BKg1.out (by repeat first | exact Below.refl _ _ | apply ba_ | apply bn_ | apply bd_)) hb); replace HB := am_ (below_step (by repeat first | (with_reducible first | exact HB.out | apply ba_ | apply bn_ | apply bd_) | exact HB.out) hb); clear hb
            have yg1_0 : w1.cell? ⟨g1, 0, none⟩ = some (.int .i64 i) := (blk_cell BKg1.out 0).trans rfl; have fg1_0 := blk_frozen BKg1.out 0; have yg1_1 : w1.cell? ⟨g1, 1, none⟩ = some (.int .i64 t) := (blk_cell BKg1.out 1).trans rfl; have fg1_1 := blk_frozen BKg1.out 1; have yg1_2 : w1.cell? ⟨g1, 2, none⟩ = some (.int .i64 m) := (blk_cell BKg1.out 2).trans rfl; have fg1_2 := blk_frozen BKg1.out 2; have yg1_3 : w1.cell? ⟨g1, 3, none⟩ = some (.int .i64 r) := (blk_cell BKg1.out 3).trans rfl; have fg1_3 := blk_frozen BKg1.out 3
            go_wp2_with fail
            clear yg1_0 fg1_0 yg1_1 fg1_1 yg1_2 fg1_2 yg1_3 fg1_3
            refine (spec_l1In.calls h 0 1000000000 true _ HIN.out).mono ?_
            rintro e2 w2 ⟨rfl, hb0⟩
            have hb := db_ hb0
            clear hb0
            replace BKg1 := am_ (blk_below (blk_below BKg1.out (by repeat first | exact Below.refl _ _ | apply ba_ | apply bn_ | apply bd_)) hb); replace HB := am_ (below_step (by repeat first | (with_reducible first | exact HB.out | apply ba_ | apply bn_ | apply bd_) | exact HB.out) hb); clear hb
            have yg1_0 : w2.cell? ⟨g1, 0, none⟩ = some (.int .i64 i) := (blk_cell BKg1.out 0).trans rfl; have fg1_0 := blk_frozen BKg1.out 0; have yg1_1 : w2.cell? ⟨g1, 1, none⟩ = some (.int .i64 t) := (blk_cell BKg1.out 1).trans rfl; have fg1_1 := blk_frozen BKg1.out 1; have yg1_2 : w2.cell? ⟨g1, 2, none⟩ = some (.int .i64 m) := (blk_cell BKg1.out 2).trans rfl; have fg1_2 := blk_frozen BKg1.out 2; have yg1_3 : w2.cell? ⟨g1, 3, none⟩ = some (.int .i64 r) := (blk_cell BKg1.out 3).trans rfl; have fg1_3 := blk_frozen BKg1.out 3
            go_wp2_with fail
            go_quiet (fail)
            go_wp2_with fail
            go_quiet (fail)
            go_wp2_with fail
            go_quiet ((go_at_call 57; refine (spec_l1Most.calls N (-N) M _ HM.out).mono ?_; rintro e_ w_ ⟨rfl, ⟨nd, rfl⟩⟩; first | exact ⟨rfl, _, World.drewN_drewN _ _ _⟩ | exact ⟨rfl, _, Eq.trans (World.drewN_drewN _ _ _) (congrArg (World.drewN _) (Nat.add_assoc _ _ _))⟩))
            go_wp2_with fail
            refine (spec_l2Amount.calls N true _ HA.out).mono ?_
            rintro e2 w4 ⟨rfl, ⟨nq2, rfl⟩⟩
            go_wp2
            go_ret2
            exact ⟨rfl, (by repeat first | (with_reducible first | exact HB.out | apply ba_ | apply bn_ | apply bd_ | refine below_set ?_ GEg1.out) | exact HB.out)⟩
          · rw [if_neg q4]
            rw [decide_eq_false q4] at ha
            have HA := am_ ha
            clear ha q4
            go_enter Try.func22, Try.ntmps22
            go_wp2_with ((((with_reducible refine gate_dst (N := 5) rfl ?_); refine box_event ?hg (N := 5) ?hd (cs := #[.int .i64 i, .int .i64 t, .int .i64 m, .int .i64 r]) (t := 26) ?hr ?_; (case hd => rfl); (case hg => rfl); (case hr => first | (go_simp; done) | (go_simp; rfl))); intro g1 hg w_g1 hbox hb; have n_ := am_ (below_step (by repeat first | (with_reducible first | exact HB.out | apply ba_ | apply bn_ | apply bd_) | exact HB.out) hb); have BKg1 := am_ hbox; have GEg1 := am_ (show w.heap.size ≤ g1 from by rw [hg]; exact below_size (by repeat first | (with_reducible first | exact HB.out | apply ba_ | apply bn_ | apply bd_) | exact HB.out)); clear HB ; have HB := n_; clear n_ hb hbox hg); have yg1_0 : w_g1.cell? ⟨g1, 0, none⟩ = some (.int .i64 i) := (blk_cell BKg1.out 0).trans rfl; have fg1_0 := blk_frozen BKg1.out 0; have yg1_1 : w_g1.cell? ⟨g1, 1, none⟩ = some (.int .i64 t) := (blk_cell BKg1.out 1).trans rfl; have fg1_1 := blk_frozen BKg1.out 1; have yg1_2 : w_g1.cell? ⟨g1, 2, none⟩ = some (.int .i64 m) := (blk_cell BKg1.out 2).trans rfl; have fg1_2 := blk_frozen BKg1.out 2; have yg1_3 : w_g1.cell? ⟨g1, 3, none⟩ = some (.int .i64 r) := (blk_cell BKg1.out 3).trans rfl; have fg1_3 := blk_frozen BKg1.out 3)
            clear yg1_0 fg1_0 yg1_1 fg1_1 yg1_2 fg1_2 yg1_3 fg1_3
            refine (spec_RequiredAmount.calls e i t m r _ _ _ HQ.out).mono ?_
            rintro e2 w1 ⟨rfl, hb⟩
            replace BKg1 := am_ (blk_below (blk_below BKg1.out (by repeat first | exact Below.refl _ _ | apply ba_ | apply bn_ | apply bd_)) hb); replace HB := am_ (below_step (by repeat first | (with_reducible first | exact HB.out | apply ba_ | apply bn_ | apply bd_) | exact HB.out) hb); clear hb
            have yg1_0 : w1.cell? ⟨g1, 0, none⟩ = some (.int .i64 i) := (blk_cell BKg1.out 0).trans rfl; have fg1_0 := blk_frozen BKg1.out 0; have yg1_1 : w1.cell? ⟨g1, 1, none⟩ = some (.int .i64 t) := (blk_cell BKg1.out 1).trans rfl; have fg1_1 := blk_frozen BKg1.out 1; have yg1_2 : w1.cell? ⟨g1, 2, none⟩ = some (.int .i64 m) := (blk_cell BKg1.out 2).trans rfl; have fg1_2 := blk_frozen BKg1.out 2; have yg1_3 : w1.cell? ⟨g1, 3, none⟩ = some (.int .i64 r) := (blk_cell BKg1.out 3).trans rfl; have fg1_3 := blk_frozen BKg1.out 3
            go_wp2_with fail
            clear yg1_0 fg1_0 yg1_1 fg1_1 yg1_2 fg1_2 yg1_3 fg1_3
            refine (spec_l1In.calls h 0 1000000000 true _ HIN.out).mono ?_
            rintro e2 w2 ⟨rfl, hb0⟩
            have hb := db_ hb0
            clear hb0
            replace BKg1 := am_ (blk_below (blk_below BKg1.out (by repeat first | exact Below.refl _ _ | apply ba_ | apply bn_ | apply bd_)) hb); replace HB := am_ (below_step (by repeat first | (with_reducible first | exact HB.out | apply ba_ | apply bn_ | apply bd_) | exact HB.out) hb); clear hb
            have yg1_0 : w2.cell? ⟨g1, 0, none⟩ = some (.int .i64 i) := (blk_cell BKg1.out 0).trans rfl; have fg1_0 := blk_frozen BKg1.out 0; have yg1_1 : w2.cell? ⟨g1, 1, none⟩ = some (.int .i64 t) := (blk_cell BKg1.out 1).trans rfl; have fg1_1 := blk_frozen BKg1.out 1; have yg1_2 : w2.cell? ⟨g1, 2, none⟩ = some (.int .i64 m) := (blk_cell BKg1.out 2).trans rfl; have fg1_2 := blk_frozen BKg1.out 2; have yg1_3 : w2.cell? ⟨g1, 3, none⟩ = some (.int .i64 r) := (blk_cell BKg1.out 3).trans rfl; have fg1_3 := blk_frozen BKg1.out 3
            go_wp2_with fail
            go_quiet (fail)
            go_wp2_with fail
            go_quiet (fail)
            go_wp2_with fail
            go_quiet ((go_at_call 57; refine (spec_l1Most.calls N (-N) M _ HM.out).mono ?_; rintro e_ w_ ⟨rfl, ⟨nd, rfl⟩⟩; first | exact ⟨rfl, _, World.drewN_drewN _ _ _⟩ | exact ⟨rfl, _, Eq.trans (World.drewN_drewN _ _ _) (congrArg (World.drewN _) (Nat.add_assoc _ _ _))⟩))
            go_wp2_with fail
            refine (spec_l2Amount.calls N false _ HA.out).mono ?_
            rintro e2 w4 ⟨rfl, ⟨nq2, rfl⟩⟩
            go_wp2
            go_ret2
            exact ⟨rfl, (by repeat first | (with_reducible first | exact HB.out | apply ba_ | apply bn_ | apply bd_ | refine below_set ?_ GEg1.out) | exact HB.out)⟩
      · have cd : decide (d < 0) = false := decide_eq_false q
        obtain ⟨hN, hN0⟩ := hc2 (by omega)
        obtain ⟨N, hNe⟩ : ∃ N, N = n1 := ⟨_, rfl⟩
        rw [hN, ← hNe]
        have hNb : 0 ≤ N ∧ N ≤ 4000000000 := by omega
        subst hNe
        clear hN
        clear hneg hc1 hc2 hc3 a2 a3 a4 q
        have hm := l1Most_eq N (by omega)
        obtain ⟨M, hM⟩ : ∃ M, M = absI N := ⟨_, rfl⟩
        have HM := am_ (show spec_l1Most.f N (-N) = some M from by rw [hM]; exact hm)
        have hE : callEnd N m = if M < m then (0, true) else if -1000000000 ≤ N ∧ N ≤ 1000000000 then (N, true) else (0, false) := by rw [hM]; rfl
        rw [hE]
        clear hm hM hE
        have hw4 : IntKind.i64.wrap (-N) = -N := IntWalk.i64_in _ (by omega)
        by_cases q3 : M < m
        · rw [if_pos q3]
          have cm : decide (M < m) = true := decide_eq_true q3
          clear q3
          have ha := l2Amount_eq 0
          rw [decide_eq_true (by omega)] at ha
          have HA := am_ ha
          clear ha
          go_enter Try.func22, Try.ntmps22
          go_wp2_with ((((with_reducible refine gate_dst (N := 5) rfl ?_); refine box_event ?hg (N := 5) ?hd (cs := #[.int .i64 i, .int .i64 t, .int .i64 m, .int .i64 r]) (t := 26) ?hr ?_; (case hd => rfl); (case hg => rfl); (case hr => first | (go_simp; done) | (go_simp; rfl))); intro g1 hg w_g1 hbox hb; have n_ := am_ (below_step (by repeat first | (with_reducible first | exact HB.out | apply ba_ | apply bn_ | apply bd_) | exact HB.out) hb); have BKg1 := am_ hbox; have GEg1 := am_ (show w.heap.size ≤ g1 from by rw [hg]; exact below_size (by repeat first | (with_reducible first | exact HB.out | apply ba_ | apply bn_ | apply bd_) | exact HB.out)); clear HB ; have HB := n_; clear n_ hb hbox hg); have yg1_0 : w_g1.cell? ⟨g1, 0, none⟩ = some (.int .i64 i) := (blk_cell BKg1.out 0).trans rfl; have fg1_0 := blk_frozen BKg1.out 0; have yg1_1 : w_g1.cell? ⟨g1, 1, none⟩ = some (.int .i64 t) := (blk_cell BKg1.out 1).trans rfl; have fg1_1 := blk_frozen BKg1.out 1; have yg1_2 : w_g1.cell? ⟨g1, 2, none⟩ = some (.int .i64 m) := (blk_cell BKg1.out 2).trans rfl; have fg1_2 := blk_frozen BKg1.out 2; have yg1_3 : w_g1.cell? ⟨g1, 3, none⟩ = some (.int .i64 r) := (blk_cell BKg1.out 3).trans rfl; have fg1_3 := blk_frozen BKg1.out 3)
          clear yg1_0 fg1_0 yg1_1 fg1_1 yg1_2 fg1_2 yg1_3 fg1_3
          refine (spec_RequiredAmount.calls e i t m r _ _ _ HQ.out).mono ?_
          rintro e2 w1 ⟨rfl, hb⟩
          replace BKg1 := am_ (blk_below (blk_below BKg1.out (by repeat first | exact Below.refl _ _ | apply ba_ | apply bn_ | apply bd_)) hb); replace HB := am_ (below_step (by repeat first | (with_reducible first | exact HB.out | apply ba_ | apply bn_ | apply bd_) | exact HB.out) hb); clear hb
          have yg1_0 : w1.cell? ⟨g1, 0, none⟩ = some (.int .i64 i) := (blk_cell BKg1.out 0).trans rfl; have fg1_0 := blk_frozen BKg1.out 0; have yg1_1 : w1.cell? ⟨g1, 1, none⟩ = some (.int .i64 t) := (blk_cell BKg1.out 1).trans rfl; have fg1_1 := blk_frozen BKg1.out 1; have yg1_2 : w1.cell? ⟨g1, 2, none⟩ = some (.int .i64 m) := (blk_cell BKg1.out 2).trans rfl; have fg1_2 := blk_frozen BKg1.out 2; have yg1_3 : w1.cell? ⟨g1, 3, none⟩ = some (.int .i64 r) := (blk_cell BKg1.out 3).trans rfl; have fg1_3 := blk_frozen BKg1.out 3
          go_wp2_with fail
          clear yg1_0 fg1_0 yg1_1 fg1_1 yg1_2 fg1_2 yg1_3 fg1_3
          refine (spec_l1In.calls h 0 1000000000 true _ HIN.out).mono ?_
          rintro e2 w2 ⟨rfl, hb0⟩
          have hb := db_ hb0
          clear hb0
          replace BKg1 := am_ (blk_below (blk_below BKg1.out (by repeat first | exact Below.refl _ _ | apply ba_ | apply bn_ | apply bd_)) hb); replace HB := am_ (below_step (by repeat first | (with_reducible first | exact HB.out | apply ba_ | apply bn_ | apply bd_) | exact HB.out) hb); clear hb
          have yg1_0 : w2.cell? ⟨g1, 0, none⟩ = some (.int .i64 i) := (blk_cell BKg1.out 0).trans rfl; have fg1_0 := blk_frozen BKg1.out 0; have yg1_1 : w2.cell? ⟨g1, 1, none⟩ = some (.int .i64 t) := (blk_cell BKg1.out 1).trans rfl; have fg1_1 := blk_frozen BKg1.out 1; have yg1_2 : w2.cell? ⟨g1, 2, none⟩ = some (.int .i64 m) := (blk_cell BKg1.out 2).trans rfl; have fg1_2 := blk_frozen BKg1.out 2; have yg1_3 : w2.cell? ⟨g1, 3, none⟩ = some (.int .i64 r) := (blk_cell BKg1.out 3).trans rfl; have fg1_3 := blk_frozen BKg1.out 3
          go_wp2_with fail
          go_quiet (fail)
          go_wp2_with fail
          go_quiet ((go_at_call 57; refine (spec_l1Most.calls N (-N) M _ HM.out).mono ?_; rintro e_ w_ ⟨rfl, ⟨nd, rfl⟩⟩; first | exact ⟨rfl, _, World.drewN_drewN _ _ _⟩ | exact ⟨rfl, _, Eq.trans (World.drewN_drewN _ _ _) (congrArg (World.drewN _) (Nat.add_assoc _ _ _))⟩))
          go_wp2_with fail
          refine (spec_l2Amount.calls 0 true _ HA.out).mono ?_
          rintro e2 w4 ⟨rfl, ⟨nq2, rfl⟩⟩
          go_wp2
          go_ret2
          exact ⟨rfl, (by repeat first | (with_reducible first | exact HB.out | apply ba_ | apply bn_ | apply bd_ | refine below_set ?_ GEg1.out) | exact HB.out)⟩
        · rw [if_neg q3]
          have cm : decide (M < m) = false := decide_eq_false q3
          clear q3
          have ha := l2Amount_eq N
          by_cases q4 : -1000000000 ≤ N ∧ N ≤ 1000000000
          · rw [if_pos q4]
            rw [decide_eq_true q4] at ha
            have HA := am_ ha
            clear ha q4
            go_enter Try.func22, Try.ntmps22
            go_wp2_with ((((with_reducible refine gate_dst (N := 5) rfl ?_); refine box_event ?hg (N := 5) ?hd (cs := #[.int .i64 i, .int .i64 t, .int .i64 m, .int .i64 r]) (t := 26) ?hr ?_; (case hd => rfl); (case hg => rfl); (case hr => first | (go_simp; done) | (go_simp; rfl))); intro g1 hg w_g1 hbox hb; have n_ := am_ (below_step (by repeat first | (with_reducible first | exact HB.out | apply ba_ | apply bn_ | apply bd_) | exact HB.out) hb); have BKg1 := am_ hbox; have GEg1 := am_ (show w.heap.size ≤ g1 from by rw [hg]; exact below_size (by repeat first | (with_reducible first | exact HB.out | apply ba_ | apply bn_ | apply bd_) | exact HB.out)); clear HB ; have HB := n_; clear n_ hb hbox hg); have yg1_0 : w_g1.cell? ⟨g1, 0, none⟩ = some (.int .i64 i) := (blk_cell BKg1.out 0).trans rfl; have fg1_0 := blk_frozen BKg1.out 0; have yg1_1 : w_g1.cell? ⟨g1, 1, none⟩ = some (.int .i64 t) := (blk_cell BKg1.out 1).trans rfl; have fg1_1 := blk_frozen BKg1.out 1; have yg1_2 : w_g1.cell? ⟨g1, 2, none⟩ = some (.int .i64 m) := (blk_cell BKg1.out 2).trans rfl; have fg1_2 := blk_frozen BKg1.out 2; have yg1_3 : w_g1.cell? ⟨g1, 3, none⟩ = some (.int .i64 r) := (blk_cell BKg1.out 3).trans rfl; have fg1_3 := blk_frozen BKg1.out 3)
            clear yg1_0 fg1_0 yg1_1 fg1_1 yg1_2 fg1_2 yg1_3 fg1_3
            refine (spec_RequiredAmount.calls e i t m r _ _ _ HQ.out).mono ?_
            rintro e2 w1 ⟨rfl, hb⟩
            replace BKg1 := am_ (blk_below (blk_below BKg1.out (by repeat first | exact Below.refl _ _ | apply ba_ | apply bn_ | apply bd_)) hb); replace HB := am_ (below_step (by repeat first | (with_reducible first | exact HB.out | apply ba_ | apply bn_ | apply bd_) | exact HB.out) hb); clear hb
            have yg1_0 : w1.cell? ⟨g1, 0, none⟩ = some (.int .i64 i) := (blk_cell BKg1.out 0).trans rfl; have fg1_0 := blk_frozen BKg1.out 0; have yg1_1 : w1.cell? ⟨g1, 1, none⟩ = some (.int .i64 t) := (blk_cell BKg1.out 1).trans rfl; have fg1_1 := blk_frozen BKg1.out 1; have yg1_2 : w1.cell? ⟨g1, 2, none⟩ = some (.int .i64 m) := (blk_cell BKg1.out 2).trans rfl; have fg1_2 := blk_frozen BKg1.out 2; have yg1_3 : w1.cell? ⟨g1, 3, none⟩ = some (.int .i64 r) := (blk_cell BKg1.out 3).trans rfl; have fg1_3 := blk_frozen BKg1.out 3
            go_wp2_with fail
            clear yg1_0 fg1_0 yg1_1 fg1_1 yg1_2 fg1_2 yg1_3 fg1_3
            refine (spec_l1In.calls h 0 1000000000 true _ HIN.out).mono ?_
            rintro e2 w2 ⟨rfl, hb0⟩
            have hb := db_ hb0
            clear hb0
            replace BKg1 := am_ (blk_below (blk_below BKg1.out (by repeat first | exact Below.refl _ _ | apply ba_ | apply bn_ | apply bd_)) hb); replace HB := am_ (below_step (by repeat first | (with_reducible first | exact HB.out | apply ba_ | apply bn_ | apply bd_) | exact HB.out) hb); clear hb
            have yg1_0 : w2.cell? ⟨g1, 0, none⟩ = some (.int .i64 i) := (blk_cell BKg1.out 0).trans rfl; have fg1_0 := blk_frozen BKg1.out 0; have yg1_1 : w2.cell? ⟨g1, 1, none⟩ = some (.int .i64 t) := (blk_cell BKg1.out 1).trans rfl; have fg1_1 := blk_frozen BKg1.out 1; have yg1_2 : w2.cell? ⟨g1, 2, none⟩ = some (.int .i64 m) := (blk_cell BKg1.out 2).trans rfl; have fg1_2 := blk_frozen BKg1.out 2; have yg1_3 : w2.cell? ⟨g1, 3, none⟩ = some (.int .i64 r) := (blk_cell BKg1.out 3).trans rfl; have fg1_3 := blk_frozen BKg1.out 3
            go_wp2_with fail
            go_quiet (fail)
            go_wp2_with fail
            go_quiet ((go_at_call 57; refine (spec_l1Most.calls N (-N) M _ HM.out).mono ?_; rintro e_ w_ ⟨rfl, ⟨nd, rfl⟩⟩; first | exact ⟨rfl, _, World.drewN_drewN _ _ _⟩ | exact ⟨rfl, _, Eq.trans (World.drewN_drewN _ _ _) (congrArg (World.drewN _) (Nat.add_assoc _ _ _))⟩))
            go_wp2_with fail
            refine (spec_l2Amount.calls N true _ HA.out).mono ?_
            rintro e2 w4 ⟨rfl, ⟨nq2, rfl⟩⟩
            go_wp2
            go_ret2
            exact ⟨rfl, (by repeat first | (with_reducible first | exact HB.out | apply ba_ | apply bn_ | apply bd_ | refine below_set ?_ GEg1.out) | exact HB.out)⟩
          · rw [if_neg q4]
            rw [decide_eq_false q4] at ha
            have HA := am_ ha
            clear ha q4
            go_enter Try.func22, Try.ntmps22
            go_wp2_with ((((with_reducible refine gate_dst (N := 5) rfl ?_); refine box_event ?hg (N := 5) ?hd (cs := #[.int .i64 i, .int .i64 t, .int .i64 m, .int .i64 r]) (t := 26) ?hr ?_; (case hd => rfl); (case hg => rfl); (case hr => first | (go_simp; done) | (go_simp; rfl))); intro g1 hg w_g1 hbox hb; have n_ := am_ (below_step (by repeat first | (with_reducible first | exact HB.out | apply ba_ | apply bn_ | apply bd_) | exact HB.out) hb); have BKg1 := am_ hbox; have GEg1 := am_ (show w.heap.size ≤ g1 from by rw [hg]; exact below_size (by repeat first | (with_reducible first | exact HB.out | apply ba_ | apply bn_ | apply bd_) | exact HB.out)); clear HB ; have HB := n_; clear n_ hb hbox hg); have yg1_0 : w_g1.cell? ⟨g1, 0, none⟩ = some (.int .i64 i) := (blk_cell BKg1.out 0).trans rfl; have fg1_0 := blk_frozen BKg1.out 0; have yg1_1 : w_g1.cell? ⟨g1, 1, none⟩ = some (.int .i64 t) := (blk_cell BKg1.out 1).trans rfl; have fg1_1 := blk_frozen BKg1.out 1; have yg1_2 : w_g1.cell? ⟨g1, 2, none⟩ = some (.int .i64 m) := (blk_cell BKg1.out 2).trans rfl; have fg1_2 := blk_frozen BKg1.out 2; have yg1_3 : w_g1.cell? ⟨g1, 3, none⟩ = some (.int .i64 r) := (blk_cell BKg1.out 3).trans rfl; have fg1_3 := blk_frozen BKg1.out 3)
            clear yg1_0 fg1_0 yg1_1 fg1_1 yg1_2 fg1_2 yg1_3 fg1_3
            refine (spec_RequiredAmount.calls e i t m r _ _ _ HQ.out).mono ?_
            rintro e2 w1 ⟨rfl, hb⟩
            replace BKg1 := am_ (blk_below (blk_below BKg1.out (by repeat first | exact Below.refl _ _ | apply ba_ | apply bn_ | apply bd_)) hb); replace HB := am_ (below_step (by repeat first | (with_reducible first | exact HB.out | apply ba_ | apply bn_ | apply bd_) | exact HB.out) hb); clear hb
            have yg1_0 : w1.cell? ⟨g1, 0, none⟩ = some (.int .i64 i) := (blk_cell BKg1.out 0).trans rfl; have fg1_0 := blk_frozen BKg1.out 0; have yg1_1 : w1.cell? ⟨g1, 1, none⟩ = some (.int .i64 t) := (blk_cell BKg1.out 1).trans rfl; have fg1_1 := blk_frozen BKg1.out 1; have yg1_2 : w1.cell? ⟨g1, 2, none⟩ = some (.int .i64 m) := (blk_cell BKg1.out 2).trans rfl; have fg1_2 := blk_frozen BKg1.out 2; have yg1_3 : w1.cell? ⟨g1, 3, none⟩ = some (.int .i64 r) := (blk_cell BKg1.out 3).trans rfl; have fg1_3 := blk_frozen BKg1.out 3
            go_wp2_with fail
            clear yg1_0 fg1_0 yg1_1 fg1_1 yg1_2 fg1_2 yg1_3 fg1_3
            refine (spec_l1In.calls h 0 1000000000 true _ HIN.out).mono ?_
            rintro e2 w2 ⟨rfl, hb0⟩
            have hb := db_ hb0
            clear hb0
            replace BKg1 := am_ (blk_below (blk_below BKg1.out (by repeat first | exact Below.refl _ _ | apply ba_ | apply bn_ | apply bd_)) hb); replace HB := am_ (below_step (by repeat first | (with_reducible first | exact HB.out | apply ba_ | apply bn_ | apply bd_) | exact HB.out) hb); clear hb
            have yg1_0 : w2.cell? ⟨g1, 0, none⟩ = some (.int .i64 i) := (blk_cell BKg1.out 0).trans rfl; have fg1_0 := blk_frozen BKg1.out 0; have yg1_1 : w2.cell? ⟨g1, 1, none⟩ = some (.int .i64 t) := (blk_cell BKg1.out 1).trans rfl; have fg1_1 := blk_frozen BKg1.out 1; have yg1_2 : w2.cell? ⟨g1, 2, none⟩ = some (.int .i64 m) := (blk_cell BKg1.out 2).trans rfl; have fg1_2 := blk_frozen BKg1.out 2; have yg1_3 : w2.cell? ⟨g1, 3, none⟩ = some (.int .i64 r) := (blk_cell BKg1.out 3).trans rfl; have fg1_3 := blk_frozen BKg1.out 3
            go_wp2_with fail
            go_quiet (fail)
            go_wp2_with fail
            go_quiet ((go_at_call 57; refine (spec_l1Most.calls N (-N) M _ HM.out).mono ?_; rintro e_ w_ ⟨rfl, ⟨nd, rfl⟩⟩; first | exact ⟨rfl, _, World.drewN_drewN _ _ _⟩ | exact ⟨rfl, _, Eq.trans (World.drewN_drewN _ _ _) (congrArg (World.drewN _) (Nat.add_assoc _ _ _))⟩))
            go_wp2_with fail
            refine (spec_l2Amount.calls N false _ HA.out).mono ?_
            rintro e2 w4 ⟨rfl, ⟨nq2, rfl⟩⟩
            go_wp2
            go_ret2
            exact ⟨rfl, (by repeat first | (with_reducible first | exact HB.out | apply ba_ | apply bn_ | apply bd_ | refine below_set ?_ GEg1.out) | exact HB.out)⟩
    · rw [if_neg ch]
      rw [decide_eq_false ch] at hin
      have HIN := am_ hin
      clear hin ch
      go_enter Try.func22, Try.ntmps22
      go_wp2_with ((((with_reducible refine gate_dst (N := 5) rfl ?_); refine box_event ?hg (N := 5) ?hd (cs := #[.int .i64 i, .int .i64 t, .int .i64 m, .int .i64 r]) (t := 26) ?hr ?_; (case hd => rfl); (case hg => rfl); (case hr => first | (go_simp; done) | (go_simp; rfl))); intro g1 hg w_g1 hbox hb; have n_ := am_ (below_step (by repeat first | (with_reducible first | exact HB.out | apply ba_ | apply bn_ | apply bd_) | exact HB.out) hb); have BKg1 := am_ hbox; have GEg1 := am_ (show w.heap.size ≤ g1 from by rw [hg]; exact below_size (by repeat first | (with_reducible first | exact HB.out | apply ba_ | apply bn_ | apply bd_) | exact HB.out)); clear HB ; have HB := n_; clear n_ hb hbox hg); have yg1_0 : w_g1.cell? ⟨g1, 0, none⟩ = some (.int .i64 i) := (blk_cell BKg1.out 0).trans rfl; have fg1_0 := blk_frozen BKg1.out 0; have yg1_1 : w_g1.cell? ⟨g1, 1, none⟩ = some (.int .i64 t) := (blk_cell BKg1.out 1).trans rfl; have fg1_1 := blk_frozen BKg1.out 1; have yg1_2 : w_g1.cell? ⟨g1, 2, none⟩ = some (.int .i64 m) := (blk_cell BKg1.out 2).trans rfl; have fg1_2 := blk_frozen BKg1.out 2; have yg1_3 : w_g1.cell? ⟨g1, 3, none⟩ = some (.int .i64 r) := (blk_cell BKg1.out 3).trans rfl; have fg1_3 := blk_frozen BKg1.out 3)
      clear yg1_0 fg1_0 yg1_1 fg1_1 yg1_2 fg1_2 yg1_3 fg1_3
      refine (spec_RequiredAmount.calls e i t m r _ _ _ HQ.out).mono ?_
      rintro e2 w1 ⟨rfl, hb⟩
      replace BKg1 := am_ (blk_below (blk_below BKg1.out (by repeat first | exact Below.refl _ _ | apply ba_ | apply bn_ | apply bd_)) hb); replace HB := am_ (below_step (by repeat first | (with_reducible first | exact HB.out | apply ba_ | apply bn_ | apply bd_) | exact HB.out) hb); clear hb
      go_wp2_with fail
      refine (spec_l1In.calls h 0 1000000000 false _ HIN.out).mono ?_
      rintro e2 w2 ⟨rfl, hb0⟩
      have hb := db_ hb0
      clear hb0
      replace BKg1 := am_ (blk_below (blk_below BKg1.out (by repeat first | exact Below.refl _ _ | apply ba_ | apply bn_ | apply bd_)) hb); replace HB := am_ (below_step (by repeat first | (with_reducible first | exact HB.out | apply ba_ | apply bn_ | apply bd_) | exact HB.out) hb); clear hb
      go_wp2
      go_ret2
      exact ⟨rfl, (by repeat first | (with_reducible first | exact HB.out | apply ba_ | apply bn_ | apply bd_ | refine below_set ?_ GEg1.out) | exact HB.out)⟩
  · rw [reqA_no c] at hq
    have hA : callA e h i t m r = (0, false) := by unfold callA; rw [if_neg (fun g => c g.1)]
    rw [hA]
    have HQ := am_ hq
    clear hq hA c hin
    go_enter Try.func22, Try.ntmps22
    go_wp2_with ((((with_reducible refine gate_dst (N := 5) rfl ?_); refine box_event ?hg (N := 5) ?hd (cs := #[.int .i64 i, .int .i64 t, .int .i64 m, .int .i64 r]) (t := 26) ?hr ?_; (case hd => rfl); (case hg => rfl); (case hr => first | (go_simp; done) | (go_simp; rfl))); intro g1 hg w_g1 hbox hb; have n_ := am_ (below_step (by repeat first | (with_reducible first | exact HB.out | apply ba_ | apply bn_ | apply bd_) | exact HB.out) hb); have BKg1 := am_ hbox; have GEg1 := am_ (show w.heap.size ≤ g1 from by rw [hg]; exact below_size (by repeat first | (with_reducible first | exact HB.out | apply ba_ | apply bn_ | apply bd_) | exact HB.out)); clear HB ; have HB := n_; clear n_ hb hbox hg); have yg1_0 : w_g1.cell? ⟨g1, 0, none⟩ = some (.int .i64 i) := (blk_cell BKg1.out 0).trans rfl; have fg1_0 := blk_frozen BKg1.out 0; have yg1_1 : w_g1.cell? ⟨g1, 1, none⟩ = some (.int .i64 t) := (blk_cell BKg1.out 1).trans rfl; have fg1_1 := blk_frozen BKg1.out 1; have yg1_2 : w_g1.cell? ⟨g1, 2, none⟩ = some (.int .i64 m) := (blk_cell BKg1.out 2).trans rfl; have fg1_2 := blk_frozen BKg1.out 2; have yg1_3 : w_g1.cell? ⟨g1, 3, none⟩ = some (.int .i64 r) := (blk_cell BKg1.out 3).trans rfl; have fg1_3 := blk_frozen BKg1.out 3)
    clear yg1_0 fg1_0 yg1_1 fg1_1 yg1_2 fg1_2 yg1_3 fg1_3
    refine (spec_RequiredAmount.calls e i t m r _ _ _ HQ.out).mono ?_
    rintro e2 w1 ⟨rfl, hb⟩
    replace BKg1 := am_ (blk_below (blk_below BKg1.out (by repeat first | exact Below.refl _ _ | apply ba_ | apply bn_ | apply bd_)) hb); replace HB := am_ (below_step (by repeat first | (with_reducible first | exact HB.out | apply ba_ | apply bn_ | apply bd_) | exact HB.out) hb); clear hb
    go_wp2
    go_ret2
    exact ⟨rfl, (by repeat first | (with_reducible first | exact HB.out | apply ba_ | apply bn_ | apply bd_ | refine below_set ?_ GEg1.out) | exact HB.out)⟩
set_option maxHeartbeats 8000000 in
set_option maxRecDepth 100000 in
theorem callI_c (e h i t m r : Int) (w : World) :
    Calls Try.prog 23 #[.int .i64 e, .int .i64 h, .agg #[.int .i64 i, .int .i64 t, .int .i64 m, .int .i64 r]] w fun e2 w' => e2 = .returned (.tuple #[.int .i64 (callA e h i t m r).1, .bool (callA e h i t m r).2]) ∧ Below w.heap.size w w' := by
  have HB := am_ (Below.refl w.heap.size w)
  obtain ⟨kq, hq⟩ := roundsOf (implRequired_ev e i t m r)
  have hin := within_eq h 0 1000000000
  by_cases c : reqOk e i t m r
  · have hbr := max0_bd (e + i - t)
    have hok := c.2.1
    obtain ⟨⟨i0, i1⟩, ⟨t0, t1⟩, ⟨m0, m1⟩, ⟨r0, r1⟩⟩ := hok
    have hc2 := c.2.2
    rw [reqA_yes c] at hq
    obtain ⟨RQ, hRQ⟩ : ∃ q, q = max0 (e + i - t) := ⟨_, rfl⟩
    have hA : callA e h i t m r = if 0 ≤ h ∧ h ≤ 1000000000 then callEnd (callN (RQ - h) r) m else (0, false) := by
      unfold callA
      by_cases ch : 0 ≤ h ∧ h ≤ 1000000000
      · rw [if_pos ⟨c, ch⟩, if_pos ch, hRQ]
      · rw [if_neg (fun g => ch g.2), if_neg ch]
    rw [← hRQ] at hq hbr
    have rq0 : 0 ≤ RQ := hbr.1
    have rq1 : RQ ≤ 1000000000 := hbr.2.1 hc2
    rw [hA]
    have HQ := am_ hq
    clear hq hbr hc2 hA hRQ c
    by_cases ch : 0 ≤ h ∧ h ≤ 1000000000
    · rw [if_pos ch]
      rw [decide_eq_true ch] at hin
      have HIN := am_ hin
      have h0 := ch.1
      have h1 := ch.2
      clear hin ch
      obtain ⟨d, hd_⟩ : ∃ d, RQ = d + h := ⟨RQ - h, by omega⟩
      subst hd_
      rw [show d + h - h = d from by omega]
      have hwd : IntKind.i64.wrap (d + h - h) = d := by rw [show d + h - h = d from by omega]; exact IntWalk.i64_in _ (by omega)
      obtain ⟨q1, n1, q2, n2, ⟨a1, a2, a3, a4, a5, a6⟩, hneg, hc1, hc2, hc3⟩ := call_parts d m r (by omega) ⟨r0, r1⟩
      have hrz : ¬ (r = 0) := by omega
      have hrz2 : ((r : Int) == 0) = false := by rw [beq_eq_false_iff_ne]; omega
      have hw1 : IntKind.i64.wrap (q1 * r) = n1 := by rw [a2]; exact IntWalk.i64_in _ (by omega)
      have hw1' : IntKind.i64.wrap q1 = q1 := IntWalk.i64_in _ (by omega)
      by_cases q : 0 < d
      · have cd : decide (0 < d) = true := decide_eq_true q
        obtain ⟨hN, hN0⟩ := hc2 (by omega)
        obtain ⟨N, hNe⟩ : ∃ N, N = n1 := ⟨_, rfl⟩
        rw [hN, ← hNe]
        have hNb : 0 ≤ N ∧ N ≤ 4000000000 := by omega
        subst hNe
        have hE : callEnd N m = if N < m then (0, true) else if -1000000000 ≤ N ∧ N ≤ 1000000000 then (N, true) else (0, false) := by unfold callEnd; rw [show absI N = N from if_neg (by omega)]
        rw [hE]
        clear hN hE
        clear hneg hc1 hc2 hc3 a2 a3 a4 q
        by_cases q3 : N < m
        · rw [if_pos q3]
          have cm : decide (N < m) = true := decide_eq_true q3
          clear q3
          have ha := isAmount_eq 0
          rw [decide_eq_true (by omega)] at ha
          have HA := am_ ha
          clear ha
          go_enter Try.func23, Try.ntmps23
          go_wp2_with ((((with_reducible refine gate_dst (N := 5) rfl ?_); refine box_event ?hg (N := 5) ?hd (cs := #[.int .i64 i, .int .i64 t, .int .i64 m, .int .i64 r]) (t := 26) ?hr ?_; (case hd => rfl); (case hg => rfl); (case hr => first | (go_simp; done) | (go_simp; rfl))); intro g1 hg w_g1 hbox hb; have n_ := am_ (below_step (by repeat first | (with_reducible first | exact HB.out | apply ba_ | apply bn_ | apply bd_) | exact HB.out) hb); have BKg1 := am_ hbox; have GEg1 := am_ (show w.heap.size ≤ g1 from by rw [hg]; exact below_size (by repeat first | (with_reducible first | exact HB.out | apply ba_ | apply bn_ | apply bd_) | exact HB.out)); clear HB ; have HB := n_; clear n_ hb hbox hg); have yg1_0 : w_g1.cell? ⟨g1, 0, none⟩ = some (.int .i64 i) := (blk_cell BKg1.out 0).trans rfl; have fg1_0 := blk_frozen BKg1.out 0; have yg1_1 : w_g1.cell? ⟨g1, 1, none⟩ = some (.int .i64 t) := (blk_cell BKg1.out 1).trans rfl; have fg1_1 := blk_frozen BKg1.out 1; have yg1_2 : w_g1.cell? ⟨g1, 2, none⟩ = some (.int .i64 m) := (blk_cell BKg1.out 2).trans rfl; have fg1_2 := blk_frozen BKg1.out 2; have yg1_3 : w_g1.cell? ⟨g1, 3, none⟩ = some (.int .i64 r) := (blk_cell BKg1.out 3).trans rfl; have fg1_3 := blk_frozen BKg1.out 3)
          clear yg1_0 fg1_0 yg1_1 fg1_1 yg1_2 fg1_2 yg1_3 fg1_3
          refine (impl_RequiredAmount.calls kq e i t m r _ _ _ HQ.out).mono ?_
          rintro e2 w1 ⟨rfl, hb⟩
          replace BKg1 := am_ (blk_below (blk_below BKg1.out (by repeat first | exact Below.refl _ _ | apply ba_ | apply bn_ | apply bd_)) hb); replace HB := am_ (below_step (by repeat first | (with_reducible first | exact HB.out | apply ba_ | apply bn_ | apply bd_) | exact HB.out) hb); clear hb
          have yg1_0 : w1.cell? ⟨g1, 0, none⟩ = some (.int .i64 i) := (blk_cell BKg1.out 0).trans rfl; have fg1_0 := blk_frozen BKg1.out 0; have yg1_1 : w1.cell? ⟨g1, 1, none⟩ = some (.int .i64 t) := (blk_cell BKg1.out 1).trans rfl; have fg1_1 := blk_frozen BKg1.out 1; have yg1_2 : w1.cell? ⟨g1, 2, none⟩ = some (.int .i64 m) := (blk_cell BKg1.out 2).trans rfl; have fg1_2 := blk_frozen BKg1.out 2; have yg1_3 : w1.cell? ⟨g1, 3, none⟩ = some (.int .i64 r) := (blk_cell BKg1.out 3).trans rfl; have fg1_3 := blk_frozen BKg1.out 3
          go_wp2_with fail
          clear yg1_0 fg1_0 yg1_1 fg1_1 yg1_2 fg1_2 yg1_3 fg1_3
          refine (impl_within.calls h 0 1000000000 true _ HIN.out).mono ?_
          rintro e2 w2 ⟨rfl, hb0⟩
          have hb := db_ hb0
          clear hb0
          replace BKg1 := am_ (blk_below (blk_below BKg1.out (by repeat first | exact Below.refl _ _ | apply ba_ | apply bn_ | apply bd_)) hb); replace HB := am_ (below_step (by repeat first | (with_reducible first | exact HB.out | apply ba_ | apply bn_ | apply bd_) | exact HB.out) hb); clear hb
          have yg1_0 : w2.cell? ⟨g1, 0, none⟩ = some (.int .i64 i) := (blk_cell BKg1.out 0).trans rfl; have fg1_0 := blk_frozen BKg1.out 0; have yg1_1 : w2.cell? ⟨g1, 1, none⟩ = some (.int .i64 t) := (blk_cell BKg1.out 1).trans rfl; have fg1_1 := blk_frozen BKg1.out 1; have yg1_2 : w2.cell? ⟨g1, 2, none⟩ = some (.int .i64 m) := (blk_cell BKg1.out 2).trans rfl; have fg1_2 := blk_frozen BKg1.out 2; have yg1_3 : w2.cell? ⟨g1, 3, none⟩ = some (.int .i64 r) := (blk_cell BKg1.out 3).trans rfl; have fg1_3 := blk_frozen BKg1.out 3
          go_wp2_with fail
          go_quiet (fail)
          go_wp2_with fail
          refine (impl_isAmount.calls 0 true _ HA.out).mono ?_
          rintro e2 w4 ⟨rfl, ⟨nq2, rfl⟩⟩
          go_wp2
          go_ret2
          exact ⟨by first | rfl | (congr 4; omega), (by repeat first | (with_reducible first | exact HB.out | apply ba_ | apply bn_ | apply bd_ | refine below_set ?_ GEg1.out) | exact HB.out)⟩
        · rw [if_neg q3]
          have cm : decide (N < m) = false := decide_eq_false q3
          clear q3
          have ha := isAmount_eq N
          by_cases q4 : -1000000000 ≤ N ∧ N ≤ 1000000000
          · rw [if_pos q4]
            rw [decide_eq_true q4] at ha
            have HA := am_ ha
            clear ha q4
            go_enter Try.func23, Try.ntmps23
            go_wp2_with ((((with_reducible refine gate_dst (N := 5) rfl ?_); refine box_event ?hg (N := 5) ?hd (cs := #[.int .i64 i, .int .i64 t, .int .i64 m, .int .i64 r]) (t := 26) ?hr ?_; (case hd => rfl); (case hg => rfl); (case hr => first | (go_simp; done) | (go_simp; rfl))); intro g1 hg w_g1 hbox hb; have n_ := am_ (below_step (by repeat first | (with_reducible first | exact HB.out | apply ba_ | apply bn_ | apply bd_) | exact HB.out) hb); have BKg1 := am_ hbox; have GEg1 := am_ (show w.heap.size ≤ g1 from by rw [hg]; exact below_size (by repeat first | (with_reducible first | exact HB.out | apply ba_ | apply bn_ | apply bd_) | exact HB.out)); clear HB ; have HB := n_; clear n_ hb hbox hg); have yg1_0 : w_g1.cell? ⟨g1, 0, none⟩ = some (.int .i64 i) := (blk_cell BKg1.out 0).trans rfl; have fg1_0 := blk_frozen BKg1.out 0; have yg1_1 : w_g1.cell? ⟨g1, 1, none⟩ = some (.int .i64 t) := (blk_cell BKg1.out 1).trans rfl; have fg1_1 := blk_frozen BKg1.out 1; have yg1_2 : w_g1.cell? ⟨g1, 2, none⟩ = some (.int .i64 m) := (blk_cell BKg1.out 2).trans rfl; have fg1_2 := blk_frozen BKg1.out 2; have yg1_3 : w_g1.cell? ⟨g1, 3, none⟩ = some (.int .i64 r) := (blk_cell BKg1.out 3).trans rfl; have fg1_3 := blk_frozen BKg1.out 3)
            clear yg1_0 fg1_0 yg1_1 fg1_1 yg1_2 fg1_2 yg1_3 fg1_3
            refine (impl_RequiredAmount.calls kq e i t m r _ _ _ HQ.out).mono ?_
            rintro e2 w1 ⟨rfl, hb⟩
            replace BKg1 := am_ (blk_below (blk_below BKg1.out (by repeat first | exact Below.refl _ _ | apply ba_ | apply bn_ | apply bd_)) hb); replace HB := am_ (below_step (by repeat first | (with_reducible first | exact HB.out | apply ba_ | apply bn_ | apply bd_) | exact HB.out) hb); clear hb
            have yg1_0 : w1.cell? ⟨g1, 0, none⟩ = some (.int .i64 i) := (blk_cell BKg1.out 0).trans rfl; have fg1_0 := blk_frozen BKg1.out 0; have yg1_1 : w1.cell? ⟨g1, 1, none⟩ = some (.int .i64 t) := (blk_cell BKg1.out 1).trans rfl; have fg1_1 := blk_frozen BKg1.out 1; have yg1_2 : w1.cell? ⟨g1, 2, none⟩ = some (.int .i64 m) := (blk_cell BKg1.out 2).trans rfl; have fg1_2 := blk_frozen BKg1.out 2; have yg1_3 : w1.cell? ⟨g1, 3, none⟩ = some (.int .i64 r) := (blk_cell BKg1.out 3).trans rfl; have fg1_3 := blk_frozen BKg1.out 3
            go_wp2_with fail
            clear yg1_0 fg1_0 yg1_1 fg1_1 yg1_2 fg1_2 yg1_3 fg1_3
            refine (impl_within.calls h 0 1000000000 true _ HIN.out).mono ?_
            rintro e2 w2 ⟨rfl, hb0⟩
            have hb := db_ hb0
            clear hb0
            replace BKg1 := am_ (blk_below (blk_below BKg1.out (by repeat first | exact Below.refl _ _ | apply ba_ | apply bn_ | apply bd_)) hb); replace HB := am_ (below_step (by repeat first | (with_reducible first | exact HB.out | apply ba_ | apply bn_ | apply bd_) | exact HB.out) hb); clear hb
            have yg1_0 : w2.cell? ⟨g1, 0, none⟩ = some (.int .i64 i) := (blk_cell BKg1.out 0).trans rfl; have fg1_0 := blk_frozen BKg1.out 0; have yg1_1 : w2.cell? ⟨g1, 1, none⟩ = some (.int .i64 t) := (blk_cell BKg1.out 1).trans rfl; have fg1_1 := blk_frozen BKg1.out 1; have yg1_2 : w2.cell? ⟨g1, 2, none⟩ = some (.int .i64 m) := (blk_cell BKg1.out 2).trans rfl; have fg1_2 := blk_frozen BKg1.out 2; have yg1_3 : w2.cell? ⟨g1, 3, none⟩ = some (.int .i64 r) := (blk_cell BKg1.out 3).trans rfl; have fg1_3 := blk_frozen BKg1.out 3
            go_wp2_with fail
            go_quiet (fail)
            go_wp2_with fail
            refine (impl_isAmount.calls N true _ HA.out).mono ?_
            rintro e2 w4 ⟨rfl, ⟨nq2, rfl⟩⟩
            go_wp2
            go_ret2
            exact ⟨by first | rfl | (congr 4; omega), (by repeat first | (with_reducible first | exact HB.out | apply ba_ | apply bn_ | apply bd_ | refine below_set ?_ GEg1.out) | exact HB.out)⟩
          · rw [if_neg q4]
            rw [decide_eq_false q4] at ha
            have HA := am_ ha
            clear ha q4
            go_enter Try.func23, Try.ntmps23
            go_wp2_with ((((with_reducible refine gate_dst (N := 5) rfl ?_); refine box_event ?hg (N := 5) ?hd (cs := #[.int .i64 i, .int .i64 t, .int .i64 m, .int .i64 r]) (t := 26) ?hr ?_; (case hd => rfl); (case hg => rfl); (case hr => first | (go_simp; done) | (go_simp; rfl))); intro g1 hg w_g1 hbox hb; have n_ := am_ (below_step (by repeat first | (with_reducible first | exact HB.out | apply ba_ | apply bn_ | apply bd_) | exact HB.out) hb); have BKg1 := am_ hbox; have GEg1 := am_ (show w.heap.size ≤ g1 from by rw [hg]; exact below_size (by repeat first | (with_reducible first | exact HB.out | apply ba_ | apply bn_ | apply bd_) | exact HB.out)); clear HB ; have HB := n_; clear n_ hb hbox hg); have yg1_0 : w_g1.cell? ⟨g1, 0, none⟩ = some (.int .i64 i) := (blk_cell BKg1.out 0).trans rfl; have fg1_0 := blk_frozen BKg1.out 0; have yg1_1 : w_g1.cell? ⟨g1, 1, none⟩ = some (.int .i64 t) := (blk_cell BKg1.out 1).trans rfl; have fg1_1 := blk_frozen BKg1.out 1; have yg1_2 : w_g1.cell? ⟨g1, 2, none⟩ = some (.int .i64 m) := (blk_cell BKg1.out 2).trans rfl; have fg1_2 := blk_frozen BKg1.out 2; have yg1_3 : w_g1.cell? ⟨g1, 3, none⟩ = some (.int .i64 r) := (blk_cell BKg1.out 3).trans rfl; have fg1_3 := blk_frozen BKg1.out 3)
            clear yg1_0 fg1_0 yg1_1 fg1_1 yg1_2 fg1_2 yg1_3 fg1_3
            refine (impl_RequiredAmount.calls kq e i t m r _ _ _ HQ.out).mono ?_
            rintro e2 w1 ⟨rfl, hb⟩
            replace BKg1 := am_ (blk_below (blk_below BKg1.out (by repeat first | exact Below.refl _ _ | apply ba_ | apply bn_ | apply bd_)) hb); replace HB := am_ (below_step (by repeat first | (with_reducible first | exact HB.out | apply ba_ | apply bn_ | apply bd_) | exact HB.out) hb); clear hb
            have yg1_0 : w1.cell? ⟨g1, 0, none⟩ = some (.int .i64 i) := (blk_cell BKg1.out 0).trans rfl; have fg1_0 := blk_frozen BKg1.out 0; have yg1_1 : w1.cell? ⟨g1, 1, none⟩ = some (.int .i64 t) := (blk_cell BKg1.out 1).trans rfl; have fg1_1 := blk_frozen BKg1.out 1; have yg1_2 : w1.cell? ⟨g1, 2, none⟩ = some (.int .i64 m) := (blk_cell BKg1.out 2).trans rfl; have fg1_2 := blk_frozen BKg1.out 2; have yg1_3 : w1.cell? ⟨g1, 3, none⟩ = some (.int .i64 r) := (blk_cell BKg1.out 3).trans rfl; have fg1_3 := blk_frozen BKg1.out 3
            go_wp2_with fail
            clear yg1_0 fg1_0 yg1_1 fg1_1 yg1_2 fg1_2 yg1_3 fg1_3
            refine (impl_within.calls h 0 1000000000 true _ HIN.out).mono ?_
            rintro e2 w2 ⟨rfl, hb0⟩
            have hb := db_ hb0
            clear hb0
            replace BKg1 := am_ (blk_below (blk_below BKg1.out (by repeat first | exact Below.refl _ _ | apply ba_ | apply bn_ | apply bd_)) hb); replace HB := am_ (below_step (by repeat first | (with_reducible first | exact HB.out | apply ba_ | apply bn_ | apply bd_) | exact HB.out) hb); clear hb
            have yg1_0 : w2.cell? ⟨g1, 0, none⟩ = some (.int .i64 i) := (blk_cell BKg1.out 0).trans rfl; have fg1_0 := blk_frozen BKg1.out 0; have yg1_1 : w2.cell? ⟨g1, 1, none⟩ = some (.int .i64 t) := (blk_cell BKg1.out 1).trans rfl; have fg1_1 := blk_frozen BKg1.out 1; have yg1_2 : w2.cell? ⟨g1, 2, none⟩ = some (.int .i64 m) := (blk_cell BKg1.out 2).trans rfl; have fg1_2 := blk_frozen BKg1.out 2; have yg1_3 : w2.cell? ⟨g1, 3, none⟩ = some (.int .i64 r) := (blk_cell BKg1.out 3).trans rfl; have fg1_3 := blk_frozen BKg1.out 3
            go_wp2_with fail
            go_quiet (fail)
            go_wp2_with fail
            refine (impl_isAmount.calls N false _ HA.out).mono ?_
            rintro e2 w4 ⟨rfl, ⟨nq2, rfl⟩⟩
            go_wp2
            go_ret2
            exact ⟨by first | rfl | (congr 4; omega), (by repeat first | (with_reducible first | exact HB.out | apply ba_ | apply bn_ | apply bd_ | refine below_set ?_ GEg1.out) | exact HB.out)⟩
      · have cd : decide (0 < d) = false := decide_eq_false q
        obtain ⟨b1, b2, b3, b4, b5, b6⟩ := hneg (by omega)
        have hw2 : IntKind.i64.wrap (q2 * r) = n2 := by rw [b2]; exact IntWalk.i64_in _ (by omega)
        have hw2' : IntKind.i64.wrap q2 = q2 := IntWalk.i64_in _ (by omega)
        have hN : callN d r = -n2 := by
          rcases Int.lt_or_le d 0 with g | g
          · exact hc1 g
          · have := (hc2 g).1; have := hc3 (by omega); omega
        obtain ⟨N, hNe⟩ : ∃ N, N = n2 := ⟨_, rfl⟩
        rw [hN, ← hNe]
        have hNb : 0 ≤ N ∧ N ≤ 1000000000 := by omega
        subst hNe
        have hE : callEnd (-N) m = if N < m then (0, true) else if -1000000000 ≤ N ∧ N ≤ 1000000000 then (-N, true) else (0, false) := by
          have e1 : absI (-N) = N := by unfold absI; split <;> omega
          unfold callEnd
          rw [e1]
          · by_cases g2 : N < m
            · rw [if_pos g2, if_pos g2]
            · rw [if_neg g2, if_neg g2, if_pos (by omega), if_pos (by omega)]
        rw [hE]
        clear hN hE b2 b3 b4
        clear hneg hc1 hc2 hc3 a2 a3 a4 q
        by_cases q3 : N < m
        · rw [if_pos q3]
          have cm : decide (N < m) = true := decide_eq_true q3
          clear q3
          have ha := isAmount_eq 0
          rw [decide_eq_true (by omega)] at ha
          have HA := am_ ha
          clear ha
          go_enter Try.func23, Try.ntmps23
          go_wp2_with ((((with_reducible refine gate_dst (N := 5) rfl ?_); refine box_event ?hg (N := 5) ?hd (cs := #[.int .i64 i, .int .i64 t, .int .i64 m, .int .i64 r]) (t := 26) ?hr ?_; (case hd => rfl); (case hg => rfl); (case hr => first | (go_simp; done) | (go_simp; rfl))); intro g1 hg w_g1 hbox hb; have n_ := am_ (below_step (by repeat first | (with_reducible first | exact HB.out | apply ba_ | apply bn_ | apply bd_) | exact HB.out) hb); have BKg1 := am_ hbox; have GEg1 := am_ (show w.heap.size ≤ g1 from by rw [hg]; exact below_size (by repeat first | (with_reducible first | exact HB.out | apply ba_ | apply bn_ | apply bd_) | exact HB.out)); clear HB ; have HB := n_; clear n_ hb hbox hg); have yg1_0 : w_g1.cell? ⟨g1, 0, none⟩ = some (.int .i64 i) := (blk_cell BKg1.out 0).trans rfl; have fg1_0 := blk_frozen BKg1.out 0; have yg1_1 : w_g1.cell? ⟨g1, 1, none⟩ = some (.int .i64 t) := (blk_cell BKg1.out 1).trans rfl; have fg1_1 := blk_frozen BKg1.out 1; have yg1_2 : w_g1.cell? ⟨g1, 2, none⟩ = some (.int .i64 m) := (blk_cell BKg1.out 2).trans rfl; have fg1_2 := blk_frozen BKg1.out 2; have yg1_3 : w_g1.cell? ⟨g1, 3, none⟩ = some (.int .i64 r) := (blk_cell BKg1.out 3).trans rfl; have fg1_3 := blk_frozen BKg1.out 3)
          clear yg1_0 fg1_0 yg1_1 fg1_1 yg1_2 fg1_2 yg1_3 fg1_3
          refine (impl_RequiredAmount.calls kq e i t m r _ _ _ HQ.out).mono ?_
          rintro e2 w1 ⟨rfl, hb⟩
          replace BKg1 := am_ (blk_below (blk_below BKg1.out (by repeat first | exact Below.refl _ _ | apply ba_ | apply bn_ | apply bd_)) hb); replace HB := am_ (below_step (by repeat first | (with_reducible first | exact HB.out | apply ba_ | apply bn_ | apply bd_) | exact HB.out) hb); clear hb
          have yg1_0 : w1.cell? ⟨g1, 0, none⟩ = some (.int .i64 i) := (blk_cell BKg1.out 0).trans rfl; have fg1_0 := blk_frozen BKg1.out 0; have yg1_1 : w1.cell? ⟨g1, 1, none⟩ = some (.int .i64 t) := (blk_cell BKg1.out 1).trans rfl; have fg1_1 := blk_frozen BKg1.out 1; have yg1_2 : w1.cell? ⟨g1, 2, none⟩ = some (.int .i64 m) := (blk_cell BKg1.out 2).trans rfl; have fg1_2 := blk_frozen BKg1.out 2; have yg1_3 : w1.cell? ⟨g1, 3, none⟩ = some (.int .i64 r) := (blk_cell BKg1.out 3).trans rfl; have fg1_3 := blk_frozen BKg1.out 3
          go_wp2_with fail
          clear yg1_0 fg1_0 yg1_1 fg1_1 yg1_2 fg1_2 yg1_3 fg1_3
          refine (impl_within.calls h 0 1000000000 true _ HIN.out).mono ?_
          rintro e2 w2 ⟨rfl, hb0⟩
          have hb := db_ hb0
          clear hb0
          replace BKg1 := am_ (blk_below (blk_below BKg1.out (by repeat first | exact Below.refl _ _ | apply ba_ | apply bn_ | apply bd_)) hb); replace HB := am_ (below_step (by repeat first | (with_reducible first | exact HB.out | apply ba_ | apply bn_ | apply bd_) | exact HB.out) hb); clear hb
          have yg1_0 : w2.cell? ⟨g1, 0, none⟩ = some (.int .i64 i) := (blk_cell BKg1.out 0).trans rfl; have fg1_0 := blk_frozen BKg1.out 0; have yg1_1 : w2.cell? ⟨g1, 1, none⟩ = some (.int .i64 t) := (blk_cell BKg1.out 1).trans rfl; have fg1_1 := blk_frozen BKg1.out 1; have yg1_2 : w2.cell? ⟨g1, 2, none⟩ = some (.int .i64 m) := (blk_cell BKg1.out 2).trans rfl; have fg1_2 := blk_frozen BKg1.out 2; have yg1_3 : w2.cell? ⟨g1, 3, none⟩ = some (.int .i64 r) := (blk_cell BKg1.out 3).trans rfl; have fg1_3 := blk_frozen BKg1.out 3
          go_wp2_with fail
          go_quiet (fail)
          go_wp2_with fail
          refine (impl_isAmount.calls 0 true _ HA.out).mono ?_
          rintro e2 w4 ⟨rfl, ⟨nq2, rfl⟩⟩
          go_wp2
          go_ret2
          exact ⟨by first | rfl | (congr 4; omega), (by repeat first | (with_reducible first | exact HB.out | apply ba_ | apply bn_ | apply bd_ | refine below_set ?_ GEg1.out) | exact HB.out)⟩
        · rw [if_neg q3]
          have cm : decide (N < m) = false := decide_eq_false q3
          clear q3
          have ha := isAmount_eq N
          by_cases q4 : -1000000000 ≤ N ∧ N ≤ 1000000000
          · rw [if_pos q4]
            rw [decide_eq_true q4] at ha
            have HA := am_ ha
            clear ha q4
            go_enter Try.func23, Try.ntmps23
            go_wp2_with ((((with_reducible refine gate_dst (N := 5) rfl ?_); refine box_event ?hg (N := 5) ?hd (cs := #[.int .i64 i, .int .i64 t, .int .i64 m, .int .i64 r]) (t := 26) ?hr ?_; (case hd => rfl); (case hg => rfl); (case hr => first | (go_simp; done) | (go_simp; rfl))); intro g1 hg w_g1 hbox hb; have n_ := am_ (below_step (by repeat first | (with_reducible first | exact HB.out | apply ba_ | apply bn_ | apply bd_) | exact HB.out) hb); have BKg1 := am_ hbox; have GEg1 := am_ (show w.heap.size ≤ g1 from by rw [hg]; exact below_size (by repeat first | (with_reducible first | exact HB.out | apply ba_ | apply bn_ | apply bd_) | exact HB.out)); clear HB ; have HB := n_; clear n_ hb hbox hg); have yg1_0 : w_g1.cell? ⟨g1, 0, none⟩ = some (.int .i64 i) := (blk_cell BKg1.out 0).trans rfl; have fg1_0 := blk_frozen BKg1.out 0; have yg1_1 : w_g1.cell? ⟨g1, 1, none⟩ = some (.int .i64 t) := (blk_cell BKg1.out 1).trans rfl; have fg1_1 := blk_frozen BKg1.out 1; have yg1_2 : w_g1.cell? ⟨g1, 2, none⟩ = some (.int .i64 m) := (blk_cell BKg1.out 2).trans rfl; have fg1_2 := blk_frozen BKg1.out 2; have yg1_3 : w_g1.cell? ⟨g1, 3, none⟩ = some (.int .i64 r) := (blk_cell BKg1.out 3).trans rfl; have fg1_3 := blk_frozen BKg1.out 3)
            clear yg1_0 fg1_0 yg1_1 fg1_1 yg1_2 fg1_2 yg1_3 fg1_3
            refine (impl_RequiredAmount.calls kq e i t m r _ _ _ HQ.out).mono ?_
            rintro e2 w1 ⟨rfl, hb⟩
            replace BKg1 := am_ (blk_below (blk_below BKg1.out (by repeat first | exact Below.refl _ _ | apply ba_ | apply bn_ | apply bd_)) hb); replace HB := am_ (below_step (by repeat first | (with_reducible first | exact HB.out | apply ba_ | apply bn_ | apply bd_) | exact HB.out) hb); clear hb
            have yg1_0 : w1.cell? ⟨g1, 0, none⟩ = some (.int .i64 i) := (blk_cell BKg1.out 0).trans rfl; have fg1_0 := blk_frozen BKg1.out 0; have yg1_1 : w1.cell? ⟨g1, 1, none⟩ = some (.int .i64 t) := (blk_cell BKg1.out 1).trans rfl; have fg1_1 := blk_frozen BKg1.out 1; have yg1_2 : w1.cell? ⟨g1, 2, none⟩ = some (.int .i64 m) := (blk_cell BKg1.out 2).trans rfl; have fg1_2 := blk_frozen BKg1.out 2; have yg1_3 : w1.cell? ⟨g1, 3, none⟩ = some (.int .i64 r) := (blk_cell BKg1.out 3).trans rfl; have fg1_3 := blk_frozen BKg1.out 3
            go_wp2_with fail
            clear yg1_0 fg1_0 yg1_1 fg1_1 yg1_2 fg1_2 yg1_3 fg1_3
            refine (impl_within.calls h 0 1000000000 true _ HIN.out).mono ?_
            rintro e2 w2 ⟨rfl, hb0⟩
            have hb := db_ hb0
            clear hb0
            replace BKg1 := am_ (blk_below (blk_below BKg1.out (by repeat first | exact Below.refl _ _ | apply ba_ | apply bn_ | apply bd_)) hb); replace HB := am_ (below_step (by repeat first | (with_reducible first | exact HB.out | apply ba_ | apply bn_ | apply bd_) | exact HB.out) hb); clear hb
            have yg1_0 : w2.cell? ⟨g1, 0, none⟩ = some (.int .i64 i) := (blk_cell BKg1.out 0).trans rfl; have fg1_0 := blk_frozen BKg1.out 0; have yg1_1 : w2.cell? ⟨g1, 1, none⟩ = some (.int .i64 t) := (blk_cell BKg1.out 1).trans rfl; have fg1_1 := blk_frozen BKg1.out 1; have yg1_2 : w2.cell? ⟨g1, 2, none⟩ = some (.int .i64 m) := (blk_cell BKg1.out 2).trans rfl; have fg1_2 := blk_frozen BKg1.out 2; have yg1_3 : w2.cell? ⟨g1, 3, none⟩ = some (.int .i64 r) := (blk_cell BKg1.out 3).trans rfl; have fg1_3 := blk_frozen BKg1.out 3
            go_wp2_with fail
            go_quiet (fail)
            go_wp2_with fail
            refine (impl_isAmount.calls N true _ HA.out).mono ?_
            rintro e2 w4 ⟨rfl, ⟨nq2, rfl⟩⟩
            go_wp2
            go_ret2
            exact ⟨by first | rfl | (congr 4; omega), (by repeat first | (with_reducible first | exact HB.out | apply ba_ | apply bn_ | apply bd_ | refine below_set ?_ GEg1.out) | exact HB.out)⟩
          · rw [if_neg q4]
            rw [decide_eq_false q4] at ha
            have HA := am_ ha
            clear ha q4
            go_enter Try.func23, Try.ntmps23
            go_wp2_with ((((with_reducible refine gate_dst (N := 5) rfl ?_); refine box_event ?hg (N := 5) ?hd (cs := #[.int .i64 i, .int .i64 t, .int .i64 m, .int .i64 r]) (t := 26) ?hr ?_; (case hd => rfl); (case hg => rfl); (case hr => first | (go_simp; done) | (go_simp; rfl))); intro g1 hg w_g1 hbox hb; have n_ := am_ (below_step (by repeat first | (with_reducible first | exact HB.out | apply ba_ | apply bn_ | apply bd_) | exact HB.out) hb); have BKg1 := am_ hbox; have GEg1 := am_ (show w.heap.size ≤ g1 from by rw [hg]; exact below_size (by repeat first | (with_reducible first | exact HB.out | apply ba_ | apply bn_ | apply bd_) | exact HB.out)); clear HB ; have HB := n_; clear n_ hb hbox hg); have yg1_0 : w_g1.cell? ⟨g1, 0, none⟩ = some (.int .i64 i) := (blk_cell BKg1.out 0).trans rfl; have fg1_0 := blk_frozen BKg1.out 0; have yg1_1 : w_g1.cell? ⟨g1, 1, none⟩ = some (.int .i64 t) := (blk_cell BKg1.out 1).trans rfl; have fg1_1 := blk_frozen BKg1.out 1; have yg1_2 : w_g1.cell? ⟨g1, 2, none⟩ = some (.int .i64 m) := (blk_cell BKg1.out 2).trans rfl; have fg1_2 := blk_frozen BKg1.out 2; have yg1_3 : w_g1.cell? ⟨g1, 3, none⟩ = some (.int .i64 r) := (blk_cell BKg1.out 3).trans rfl; have fg1_3 := blk_frozen BKg1.out 3)
            clear yg1_0 fg1_0 yg1_1 fg1_1 yg1_2 fg1_2 yg1_3 fg1_3
            refine (impl_RequiredAmount.calls kq e i t m r _ _ _ HQ.out).mono ?_
            rintro e2 w1 ⟨rfl, hb⟩
            replace BKg1 := am_ (blk_below (blk_below BKg1.out (by repeat first | exact Below.refl _ _ | apply ba_ | apply bn_ | apply bd_)) hb); replace HB := am_ (below_step (by repeat first | (with_reducible first | exact HB.out | apply ba_ | apply bn_ | apply bd_) | exact HB.out) hb); clear hb
            have yg1_0 : w1.cell? ⟨g1, 0, none⟩ = some (.int .i64 i) := (blk_cell BKg1.out 0).trans rfl; have fg1_0 := blk_frozen BKg1.out 0; have yg1_1 : w1.cell? ⟨g1, 1, none⟩ = some (.int .i64 t) := (blk_cell BKg1.out 1).trans rfl; have fg1_1 := blk_frozen BKg1.out 1; have yg1_2 : w1.cell? ⟨g1, 2, none⟩ = some (.int .i64 m) := (blk_cell BKg1.out 2).trans rfl; have fg1_2 := blk_frozen BKg1.out 2; have yg1_3 : w1.cell? ⟨g1, 3, none⟩ = some (.int .i64 r) := (blk_cell BKg1.out 3).trans rfl; have fg1_3 := blk_frozen BKg1.out 3
            go_wp2_with fail
            clear yg1_0 fg1_0 yg1_1 fg1_1 yg1_2 fg1_2 yg1_3 fg1_3
            refine (impl_within.calls h 0 1000000000 true _ HIN.out).mono ?_
            rintro e2 w2 ⟨rfl, hb0⟩
            have hb := db_ hb0
            clear hb0
            replace BKg1 := am_ (blk_below (blk_below BKg1.out (by repeat first | exact Below.refl _ _ | apply ba_ | apply bn_ | apply bd_)) hb); replace HB := am_ (below_step (by repeat first | (with_reducible first | exact HB.out | apply ba_ | apply bn_ | apply bd_) | exact HB.out) hb); clear hb
            have yg1_0 : w2.cell? ⟨g1, 0, none⟩ = some (.int .i64 i) := (blk_cell BKg1.out 0).trans rfl; have fg1_0 := blk_frozen BKg1.out 0; have yg1_1 : w2.cell? ⟨g1, 1, none⟩ = some (.int .i64 t) := (blk_cell BKg1.out 1).trans rfl; have fg1_1 := blk_frozen BKg1.out 1; have yg1_2 : w2.cell? ⟨g1, 2, none⟩ = some (.int .i64 m) := (blk_cell BKg1.out 2).trans rfl; have fg1_2 := blk_frozen BKg1.out 2; have yg1_3 : w2.cell? ⟨g1, 3, none⟩ = some (.int .i64 r) := (blk_cell BKg1.out 3).trans rfl; have fg1_3 := blk_frozen BKg1.out 3
            go_wp2_with fail
            go_quiet (fail)
            go_wp2_with fail
            refine (impl_isAmount.calls N false _ HA.out).mono ?_
            rintro e2 w4 ⟨rfl, ⟨nq2, rfl⟩⟩
            go_wp2
            go_ret2
            exact ⟨by first | rfl | (congr 4; omega), (by repeat first | (with_reducible first | exact HB.out | apply ba_ | apply bn_ | apply bd_ | refine below_set ?_ GEg1.out) | exact HB.out)⟩
    · rw [if_neg ch]
      rw [decide_eq_false ch] at hin
      have HIN := am_ hin
      clear hin ch
      go_enter Try.func23, Try.ntmps23
      go_wp2_with ((((with_reducible refine gate_dst (N := 5) rfl ?_); refine box_event ?hg (N := 5) ?hd (cs := #[.int .i64 i, .int .i64 t, .int .i64 m, .int .i64 r]) (t := 26) ?hr ?_; (case hd => rfl); (case hg => rfl); (case hr => first | (go_simp; done) | (go_simp; rfl))); intro g1 hg w_g1 hbox hb; have n_ := am_ (below_step (by repeat first | (with_reducible first | exact HB.out | apply ba_ | apply bn_ | apply bd_) | exact HB.out) hb); have BKg1 := am_ hbox; have GEg1 := am_ (show w.heap.size ≤ g1 from by rw [hg]; exact below_size (by repeat first | (with_reducible first | exact HB.out | apply ba_ | apply bn_ | apply bd_) | exact HB.out)); clear HB ; have HB := n_; clear n_ hb hbox hg); have yg1_0 : w_g1.cell? ⟨g1, 0, none⟩ = some (.int .i64 i) := (blk_cell BKg1.out 0).trans rfl; have fg1_0 := blk_frozen BKg1.out 0; have yg1_1 : w_g1.cell? ⟨g1, 1, none⟩ = some (.int .i64 t) := (blk_cell BKg1.out 1).trans rfl; have fg1_1 := blk_frozen BKg1.out 1; have yg1_2 : w_g1.cell? ⟨g1, 2, none⟩ = some (.int .i64 m) := (blk_cell BKg1.out 2).trans rfl; have fg1_2 := blk_frozen BKg1.out 2; have yg1_3 : w_g1.cell? ⟨g1, 3, none⟩ = some (.int .i64 r) := (blk_cell BKg1.out 3).trans rfl; have fg1_3 := blk_frozen BKg1.out 3)
      clear yg1_0 fg1_0 yg1_1 fg1_1 yg1_2 fg1_2 yg1_3 fg1_3
      refine (impl_RequiredAmount.calls kq e i t m r _ _ _ HQ.out).mono ?_
      rintro e2 w1 ⟨rfl, hb⟩
      replace BKg1 := am_ (blk_below (blk_below BKg1.out (by repeat first | exact Below.refl _ _ | apply ba_ | apply bn_ | apply bd_)) hb); replace HB := am_ (below_step (by repeat first | (with_reducible first | exact HB.out | apply ba_ | apply bn_ | apply bd_) | exact HB.out) hb); clear hb
      go_wp2_with fail
      refine (impl_within.calls h 0 1000000000 false _ HIN.out).mono ?_
      rintro e2 w2 ⟨rfl, hb0⟩
      have hb := db_ hb0
      clear hb0
      replace BKg1 := am_ (blk_below (blk_below BKg1.out (by repeat first | exact Below.refl _ _ | apply ba_ | apply bn_ | apply bd_)) hb); replace HB := am_ (below_step (by repeat first | (with_reducible first | exact HB.out | apply ba_ | apply bn_ | apply bd_) | exact HB.out) hb); clear hb
      go_wp2
      go_ret2
      exact ⟨rfl, (by repeat first | (with_reducible first | exact HB.out | apply ba_ | apply bn_ | apply bd_ | refine below_set ?_ GEg1.out) | exact HB.out)⟩
  · rw [reqA_no c] at hq
    have hA : callA e h i t m r = (0, false) := by unfold callA; rw [if_neg (fun g => c g.1)]
    rw [hA]
    have HQ := am_ hq
    clear hq hA c hin
    go_enter Try.func23, Try.ntmps23
    go_wp2_with ((((with_reducible refine gate_dst (N := 5) rfl ?_); refine box_event ?hg (N := 5) ?hd (cs := #[.int .i64 i, .int .i64 t, .int .i64 m, .int .i64 r]) (t := 26) ?hr ?_; (case hd => rfl); (case hg => rfl); (case hr => first | (go_simp; done) | (go_simp; rfl))); intro g1 hg w_g1 hbox hb; have n_ := am_ (below_step (by repeat first | (with_reducible first | exact HB.out | apply ba_ | apply bn_ | apply bd_) | exact HB.out) hb); have BKg1 := am_ hbox; have GEg1 := am_ (show w.heap.size ≤ g1 from by rw [hg]; exact below_size (by repeat first | (with_reducible first | exact HB.out | apply ba_ | apply bn_ | apply bd_) | exact HB.out)); clear HB ; have HB := n_; clear n_ hb hbox hg); have yg1_0 : w_g1.cell? ⟨g1, 0, none⟩ = some (.int .i64 i) := (blk_cell BKg1.out 0).trans rfl; have fg1_0 := blk_frozen BKg1.out 0; have yg1_1 : w_g1.cell? ⟨g1, 1, none⟩ = some (.int .i64 t) := (blk_cell BKg1.out 1).trans rfl; have fg1_1 := blk_frozen BKg1.out 1; have yg1_2 : w_g1.cell? ⟨g1, 2, none⟩ = some (.int .i64 m) := (blk_cell BKg1.out 2).trans rfl; have fg1_2 := blk_frozen BKg1.out 2; have yg1_3 : w_g1.cell? ⟨g1, 3, none⟩ = some (.int .i64 r) := (blk_cell BKg1.out 3).trans rfl; have fg1_3 := blk_frozen BKg1.out 3)
    clear yg1_0 fg1_0 yg1_1 fg1_1 yg1_2 fg1_2 yg1_3 fg1_3
    refine (impl_RequiredAmount.calls kq e i t m r _ _ _ HQ.out).mono ?_
    rintro e2 w1 ⟨rfl, hb⟩
    replace BKg1 := am_ (blk_below (blk_below BKg1.out (by repeat first | exact Below.refl _ _ | apply ba_ | apply bn_ | apply bd_)) hb); replace HB := am_ (below_step (by repeat first | (with_reducible first | exact HB.out | apply ba_ | apply bn_ | apply bd_) | exact HB.out) hb); clear hb
    go_wp2
    go_ret2
    exact ⟨rfl, (by repeat first | (with_reducible first | exact HB.out | apply ba_ | apply bn_ | apply bd_ | refine below_set ?_ GEg1.out) | exact HB.out)⟩
theorem spec_c (e h i t m r : Int) (w : World) :
    Calls Try.prog 22 #[.int .i64 e, .int .i64 h, .agg #[.int .i64 i, .int .i64 t, .int .i64 m, .int .i64 r]] w fun e2 w' => e2 = .returned (.tuple #[.int .i64 (callA e h i t m r).1, .bool (callA e h i t m r).2]) ∧ Below w.heap.size w w' :=
  callS_c e h i t m r w
theorem impl_c (e h i t m r : Int) (w : World) :
    Calls Try.prog 23 #[.int .i64 e, .int .i64 h, .agg #[.int .i64 i, .int .i64 t, .int .i64 m, .int .i64 r]] w fun e2 w' => e2 = .returned (.tuple #[.int .i64 (callA e h i t m r).1, .bool (callA e h i t m r).2]) ∧ Below w.heap.size w w' :=
  callI_c e h i t m r w
set_option maxHeartbeats 16000000 in
set_option maxRecDepth 100000 in
theorem law_c (a0 : Int) (a1 : Int) (a2_0 a2_1 a2_2 a2_3 : Int) (w : World) (hi0 : -9223372036854775808 ≤ a0 ∧ a0 ≤ 9223372036854775807) (hi1 : -9223372036854775808 ≤ a1 ∧ a1 ≤ 9223372036854775807) (hi2 : KReads.InI a2_0 ∧ KReads.InI a2_1 ∧ KReads.InI a2_2 ∧ KReads.InI a2_3) :
    Calls Try.prog 5 #[.int .i64 a0, .int .i64 a1, .agg #[.int .i64 a2_0, .int .i64 a2_1, .int .i64 a2_2, .int .i64 a2_3]] w fun e w' => e = .returned (.bool true) ∧ Below w.heap.size w w' := by
  have HB0 := am_ (Below.refl w.heap.size w)
  have HK2 := am_ (blk_new w (.cells #[.int .i64 a2_0, .int .i64 a2_1, .int .i64 a2_2, .int .i64 a2_3] 23 (0, 0)))
  go_enter Try.func5, Try.ntmps5
  go_wp2_with fail
  refine (laws_toMarginTerms.calls a2_0 a2_1 a2_2 a2_3 a2_0 a2_1 a2_2 a2_3 _ rfl).mono ?_
  rintro e w1 ⟨rfl, hb⟩
  have n_ := am_ (blk_below (blk_below HK2.out (by repeat (first | (with_reducible first | exact Below.refl _ _ | apply below_alloc | apply pw_below_drewN | apply below_drew1) | exact Below.refl _ _))) hb); clear HK2; have HK2 := n_; clear n_
  have SZB := am_ (show w.heap.size < w1.heap.size from blk_lt HK2.out)
  have HB1 := am_ (below_step (by repeat (first | (with_reducible first | exact HB0.out | apply below_alloc | apply pw_below_drewN | apply below_drew1) | exact HB0.out)) hb)
  have SZ1 := am_ (show w.heap.size ≤ w1.heap.size from below_size (below_step (by repeat (first | (with_reducible first | exact Below.refl _ _ | apply below_alloc | apply pw_below_drewN | apply below_drew1) | exact Below.refl _ _)) hb))
  clear hb
  have yk2_0 : w1.cell? ⟨w.heap.size, 0, none⟩ = some (.int .i64 a2_0) := (blk_cell HK2.out 0).trans rfl
  have yk2_1 : w1.cell? ⟨w.heap.size, 1, none⟩ = some (.int .i64 a2_1) := (blk_cell HK2.out 1).trans rfl
  have yk2_2 : w1.cell? ⟨w.heap.size, 2, none⟩ = some (.int .i64 a2_2) := (blk_cell HK2.out 2).trans rfl
  have yk2_3 : w1.cell? ⟨w.heap.size, 3, none⟩ = some (.int .i64 a2_3) := (blk_cell HK2.out 3).trans rfl
  go_wp2_with fail
  clear yk2_0 yk2_1 yk2_2 yk2_3
  refine (spec_c a0 a1 a2_0 a2_1 a2_2 a2_3 _  ).mono ?_
  rintro e w2 ⟨rfl, hb⟩
  have n_ := am_ (blk_below (blk_below HK2.out (by repeat (first | (with_reducible first | exact Below.refl _ _ | apply below_alloc | apply pw_below_drewN | apply below_drew1) | exact Below.refl _ _))) hb); clear HK2; have HK2 := n_; clear n_
  have HB2 := am_ (below_step (by repeat (first | (with_reducible first | exact HB1.out | apply below_alloc | apply pw_below_drewN | apply below_drew1) | exact HB1.out)) hb)
  have SZ2 := am_ (show w1.heap.size ≤ w2.heap.size from below_size (below_step (by repeat (first | (with_reducible first | exact Below.refl _ _ | apply below_alloc | apply pw_below_drewN | apply below_drew1) | exact Below.refl _ _)) hb))
  clear hb
  have yk2_0 : w2.cell? ⟨w.heap.size, 0, none⟩ = some (.int .i64 a2_0) := (blk_cell HK2.out 0).trans rfl
  have yk2_1 : w2.cell? ⟨w.heap.size, 1, none⟩ = some (.int .i64 a2_1) := (blk_cell HK2.out 1).trans rfl
  have yk2_2 : w2.cell? ⟨w.heap.size, 2, none⟩ = some (.int .i64 a2_2) := (blk_cell HK2.out 2).trans rfl
  have yk2_3 : w2.cell? ⟨w.heap.size, 3, none⟩ = some (.int .i64 a2_3) := (blk_cell HK2.out 3).trans rfl
  go_wp2_with fail
  clear yk2_0 yk2_1 yk2_2 yk2_3
  refine (laws_toMarginTerms.calls a2_0 a2_1 a2_2 a2_3 a2_0 a2_1 a2_2 a2_3 _ rfl).mono ?_
  rintro e w3 ⟨rfl, hb⟩
  have n_ := am_ (blk_below (blk_below HK2.out (by repeat (first | (with_reducible first | exact Below.refl _ _ | apply below_alloc | apply pw_below_drewN | apply below_drew1) | exact Below.refl _ _))) hb); clear HK2; have HK2 := n_; clear n_
  have HB3 := am_ (below_step (by repeat (first | (with_reducible first | exact HB2.out | apply below_alloc | apply pw_below_drewN | apply below_drew1) | exact HB2.out)) hb)
  have SZ3 := am_ (show w2.heap.size ≤ w3.heap.size from below_size (below_step (by repeat (first | (with_reducible first | exact Below.refl _ _ | apply below_alloc | apply pw_below_drewN | apply below_drew1) | exact Below.refl _ _)) hb))
  clear hb
  have yk2_0 : w3.cell? ⟨w.heap.size, 0, none⟩ = some (.int .i64 a2_0) := (blk_cell HK2.out 0).trans rfl
  have yk2_1 : w3.cell? ⟨w.heap.size, 1, none⟩ = some (.int .i64 a2_1) := (blk_cell HK2.out 1).trans rfl
  have yk2_2 : w3.cell? ⟨w.heap.size, 2, none⟩ = some (.int .i64 a2_2) := (blk_cell HK2.out 2).trans rfl
  have yk2_3 : w3.cell? ⟨w.heap.size, 3, none⟩ = some (.int .i64 a2_3) := (blk_cell HK2.out 3).trans rfl
  go_wp2_with fail
  clear yk2_0 yk2_1 yk2_2 yk2_3
  refine (impl_c a0 a1 a2_0 a2_1 a2_2 a2_3 _  ).mono ?_
  rintro e w4 ⟨rfl, hb⟩
  have n_ := am_ (blk_below (blk_below HK2.out (by repeat (first | (with_reducible first | exact Below.refl _ _ | apply below_alloc | apply pw_below_drewN | apply below_drew1) | exact Below.refl _ _))) hb); clear HK2; have HK2 := n_; clear n_
  have HB4 := am_ (below_step (by repeat (first | (with_reducible first | exact HB3.out | apply below_alloc | apply pw_below_drewN | apply below_drew1) | exact HB3.out)) hb)
  have SZ4 := am_ (show w3.heap.size ≤ w4.heap.size from below_size (below_step (by repeat (first | (with_reducible first | exact Below.refl _ _ | apply below_alloc | apply pw_below_drewN | apply below_drew1) | exact Below.refl _ _)) hb))
  clear hb
  go_wp2
  go_ret
  exact ⟨rfl, (by repeat (first | (with_reducible first | exact HB4.out | apply below_alloc | apply pw_below_drewN | apply below_drew1) | exact HB4.out))⟩
end Go.Proofs.Ytiaakolalhdelaa.O
