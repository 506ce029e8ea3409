/- The program's MarginHistory, and the reference's, answer as one plain function does. No other condition. -/
import Derived.Test.YtiaakolalhdelaaPureFnExactMarginHistory
import Derived.Shelf.SlicesE.IndexFunc
import Derived.Shelf.SlLaysH
namespace Go.Proofs.Ytiaakolalhdelaa.O
open Go.RowKit Go.Proofs.YtiaakolalhdelaaW.PrintWords Go.Proofs.YtiaakolalhdelaaW.PrintLast Go.Proofs.YtiaakolalhdelaaW.PrintMore Go.Proofs.Ytiaakolalhdelaa.PL17MH Go.Proofs.Ytiaakolalhdelaa.EvKit Go.Proofs.Ytiaakolalhdelaa.Pure
set_option linter.unusedVariables false
set_option linter.unusedSimpArgs false
attribute [local go_sem] max2_int min2_int max_two min_two max_three min_three max_four min_four
theorem am_ {p : Prop} (h : p) : Aside0 p := ⟨h⟩
theorem db_ {w w' : World} (h : Drawn0 w w') : Below w.heap.size w w' := Drawn0.below h
/-- A number of rounds at which a printed function answers. -/
theorem roundsOf {α : Type} {g : Nat → Option α} {r : α} (h : Ev g r) : ∃ k, g k = some r := Ev.rounds h
theorem cellsOf {w : World} {b o : Nat} {xs : List Int} (h : (Kd.int .i64).C w (some ⟨b, o, none⟩) xs.length xs) : ∀ j, j < xs.length → w.cell? ⟨b, o + j, none⟩ = some (.int .i64 xs[j]!) := by
  intro j hj
  obtain ⟨ad, e, hc⟩ := Kd.at_int h (j : Int) (by omega) (by omega)
  injection e with e
  subst e
  rw [add_at] at hc
  rw [Int.toNat_natCast] at hc
  rw [hc, rd, Int.toNat_natCast, List.getD_eq_getElem?_getD, List.getElem?_eq_getElem hj, List.getElem!_eq_getElem?_getD, List.getElem?_eq_getElem hj]
  rfl
/-- Between two numbers. -/
def Iv (a b : Nat) (k : Nat) : Prop := a ≤ k ∧ k < b
theorem R_iv {α : Type} {d : Kd α} {e base : Nat} {ok : Nat → Prop} {w : World} {v : Value} {xs : List α} (h : d.R e w base ok v xs) : d.R e w base (Iv base w.heap.size) v xs := Kd.R_mono (Kd.R_bound h) (fun _ hk => ⟨hk.2.1, hk.2.2.1⟩)
/-- Where a row of one's own that is not empty begins. -/
theorem R_head {α : Type} {d : Kd α} {e base : Nat} {ok : Nat → Prop} {w : World} {A : Option Addr} {n c : Nat} {xs : List α} (h : d.R e w base ok (.slice A n c) xs) (hp : 0 < xs.length) : ∃ b, A = some ⟨b, 0, none⟩ := by
  obtain ⟨g, cap, e1, _⟩ := Kd.R_form h hp
  injection e1 with e1
  exact ⟨g, e1⟩
theorem R_ivw {α : Type} {d : Kd α} {e base a b : Nat} {ok : Nat → Prop} {w : World} {v : Value} {xs : List α} (h : d.R e w base ok v xs) (ha : a ≤ base) (hb : b ≤ base) : d.R e w b (Iv a w.heap.size) v xs := Kd.R_lower (Kd.R_mono (Kd.R_bound h) (fun _ hk => ⟨Nat.le_trans ha hk.2.1, hk.2.2.1⟩)) hb
/-- A row whose elements hold no rows lies in its own block alone. -/
theorem R_flat {α : Type} {d : Kd α} {e base : Nat} {ok ok' : Nat → Prop} {w : World} {v : Value} {xs : List α} (hf : ∀ (w : World) (b : Nat) (p q : Nat → Prop) x cs, d.M w b p x cs → d.M w b q x cs) (h : d.R e w base ok v xs) (h0 : ∀ k, v.ownBlock = some k → ok' k) : d.R e w base ok' v xs := ⟨h0, h.2.imp_ (fun _ _ hp => hf _ _ _ _ _ _ hp)⟩
theorem flat_int (w : World) (b : Nat) (p q : Nat → Prop) (x : Int) (cs : List Value) (h : (Kd.int .i64).M w b p x cs) : (Kd.int .i64).M w b q x cs := h
theorem cellsOfD {w : World} {b o m : Nat} {xs : List Int} (h : (Kd.int .i64).C w (some ⟨b, o, none⟩) m xs) : ∀ j, j < xs.length → w.cell? ⟨b, o + j, none⟩ = some (.int .i64 (xs.getD j 0)) := by
  intro j hj
  have hl := Kd.C_len h
  obtain ⟨ad, e, hc⟩ := Kd.at_int h (j : Int) (by omega) (by omega)
  injection e with e
  subst e
  rw [add_at, Int.toNat_natCast] at hc
  exact hc
theorem R_C {α : Type} {d : Kd α} {e base : Nat} {ok : Nat → Prop} {w : World} {A : Option Addr} {n c : Nat} {xs : List α} (h : d.R e w base ok (.slice A n c) xs) : d.C w A n xs := by
  obtain ⟨rfl, _, hc⟩ := Kd.R_reads' h
  exact hc
theorem R_cap {α : Type} {d : Kd α} {e base : Nat} {ok : Nat → Prop} {w : World} {A : Option Addr} {n c : Nat} {xs : List α} (h : d.R e w base ok (.slice A n c) xs) : n ≤ c := (Kd.R_reads' h).2.1
theorem R_same {α : Type} {d : Kd α} {e base : Nat} {ok : Nat → Prop} {w w1 : World} {v : Value} {xs : List α} (h : d.R e w base ok v xs) (hg : w.grownBy w1 none) : d.R e w1 base ok v xs := Kd.R_grown h hg (fun _ _ e => by cases e)
theorem R_block {α : Type} {d : Kd α} {e base g n c : Nat} {ok : Nat → Prop} {w : World} {xs : List α} (h : d.R e w base ok (.slice (some ⟨g, 0, none⟩) n c) xs) (hp : 0 < n) : ∃ cells, w.heap[g]? = some (.cells cells e (0, 0)) := by
  obtain ⟨e1, _, _⟩ := Kd.R_reads' h
  obtain ⟨g', cap, e2, _, _, cells, h3⟩ := Kd.R_form h (by omega)
  injection e2 with e2 _ _
  injection e2 with e2
  injection e2 with e2
  subst e2
  exact ⟨cells, h3⟩
theorem ba_ {w W : World} (h : Below w.heap.size w W) (o : Obj) : Below w.heap.size w (W.alloc o) := below_alloc h o
theorem bn_ {B : Nat} {w W : World} (h : Below B w W) (n : Nat) : Below B w (W.drewN n) := pw_below_drewN h n
theorem bd_ {B : Nat} {w W : World} (h : Below B w W) : Below B w W.drew := below_drew1 h
theorem ca_ {α : Type} {d : Kd α} {w : World} {xs : List α} {A : Option Addr} {n : Nat} (h : d.C w A n xs) (o : Obj) : d.C (w.alloc o) A n xs := Kd.C_alloc h o
theorem cn_ {α : Type} {d : Kd α} {w : World} {xs : List α} {A : Option Addr} {n : Nat} (h : d.C w A n xs) (m : Nat) : d.C (w.drewN m) A n xs := Kd.C_drewN h m
theorem cd_ {α : Type} {d : Kd α} {w : World} {xs : List α} {A : Option Addr} {n : Nat} (h : d.C w A n xs) : d.C w.drew A n xs := Kd.C_drew h
theorem ra_ {α : Type} {d : Kd α} {w : World} {xs : List α} {e : TypeId} {base : Nat} {ok : Nat → Prop} {v : Value} (h : d.R e w base ok v xs) (o : Obj) : d.R e (w.alloc o) base ok v xs := Kd.R_alloc h o
theorem rn_ {α : Type} {d : Kd α} {w : World} {xs : List α} {e : TypeId} {base : Nat} {ok : Nat → Prop} {v : Value} (h : d.R e w base ok v xs) (m : Nat) : d.R e (w.drewN m) base ok v xs := Kd.R_drewN h m
theorem rd_ {α : Type} {d : Kd α} {w : World} {xs : List α} {e : TypeId} {base : Nat} {ok : Nat → Prop} {v : Value} (h : d.R e w base ok v xs) : d.R e w.drew base ok v xs := Kd.R_drew h
theorem ka_ {w : World} {g : Nat} {o : Obj} (h : w.heap[g]? = some o) (o' : Obj) : (w.alloc o').heap[g]? = some o := blk_alloc h o'
theorem kd_ {w : World} {g : Nat} {o : Obj} (h : w.heap[g]? = some o) : w.drew.heap[g]? = some o := blk_drew h
theorem kn_ {w : World} {g : Nat} {o : Obj} (h : w.heap[g]? = some o) (n : Nat) : (w.drewN n).heap[g]? = some o := blk_drewN h n
theorem kf_ {w : World} {g : Nat} {t : TypeId} {cs : Array Value} (h : w.heap[g]? = some (.cells cs t (0, 0))) {p : Addr} (hp : g ≠ p.block) (u : Value) : (w.setCell p u).heap[g]? = some (.cells cs t (0, 0)) := blk_far h hp u
theorem infoI : (Try.prog.info? 3).map (fun i => (i.zero, i.size, i.bytes)) = some (some (.int .i64 0), 1, 8) := by kernel_rfl
theorem own_ne {α : Type} {k : Kd α} {e base : Nat} {w : World} {ok : Nat → Prop} {v : Value} {xs : List α} (h : k.R e w base ok v xs) {g t : Nat} {cs : Array Value} (hb : w.heap[g]? = some (.cells cs t (0, 0))) (ht : e ≠ t) : some g ≠ v.ownBlock := by
  intro he
  obtain ⟨inner, ho⟩ := Kd.R_own h
  obtain ⟨cells, hc⟩ := own_typed ho g he.symm
  rw [hb] at hc
  injection hc with h1
  injection h1 with _ h2
  exact ht h2.symm
set_option maxHeartbeats 8000000 in
set_option maxRecDepth 100000 in
theorem callS_c (e h i t m r : Int) (w : World) :
    Calls Try.prog 22 #[.int .i64 e, .int .i64 h, .agg #[.int .i64 i, .int .i64 t, .int .i64 m, .int .i64 r]] w fun e2 w' => e2 = .returned (.tuple #[.int .i64 (callA e h i t m r).1, .bool (callA e h i t m r).2]) ∧ Below w.heap.size w w' := by
  have HB := am_ (Below.refl w.heap.size w)
  have hq := specRequired_eq e i t m r
  have hin := l1In_eq h 0 1000000000
  by_cases c : reqOk e i t m r
  · have hbr := max0_bd (e + i - t)
    have hok := c.2.1
    obtain ⟨⟨i0, i1⟩, ⟨t0, t1⟩, ⟨m0, m1⟩, ⟨r0, r1⟩⟩ := hok
    have hc2 := c.2.2
    rw [reqA_yes c] at hq
    obtain ⟨RQ, hRQ⟩ : ∃ q, q = max0 (e + i - t) := ⟨_, rfl⟩
    have hA : callA e h i t m r = if 0 ≤ h ∧ h ≤ 1000000000 then callEnd (callN (RQ - h) r) m else (0, false) := by
      unfold callA
      by_cases ch : 0 ≤ h ∧ h ≤ 1000000000
      · rw [if_pos ⟨c, ch⟩, if_pos ch, hRQ]
      · rw [if_neg (fun g => ch g.2), if_neg ch]
    rw [← hRQ] at hq hbr
    have rq0 : 0 ≤ RQ := hbr.1
    have rq1 : RQ ≤ 1000000000 := hbr.2.1 hc2
    rw [hA]
    have HQ := am_ hq
    clear hq hbr hc2 hA hRQ c
    by_cases ch : 0 ≤ h ∧ h ≤ 1000000000
    · rw [if_pos ch]
      rw [decide_eq_true ch] at hin
      have HIN := am_ hin
      have h0 := ch.1
      have h1 := ch.2
      clear hin ch
      obtain ⟨d, hd_⟩ : ∃ d, RQ = d + h := ⟨RQ - h, by omega⟩
      subst hd_
      rw [show d + h - h = d from by omega]
      have hwd : IntKind.i64.wrap (d + h - h) = d := by rw [show d + h - h = d from by omega]; exact IntWalk.i64_in _ (by omega)
      obtain ⟨q1, n1, q2, n2, ⟨a1, a2, a3, a4, a5, a6⟩, hneg, hc1, hc2, hc3⟩ := call_parts d m r (by omega) ⟨r0, r1⟩
      have hrz : ¬ (r = 0) := by omega
      have hrz2 : ((r : Int) == 0) = false := by rw [beq_eq_false_iff_ne]; omega
      have hw1 : IntKind.i64.wrap (q1 * r) = n1 := by rw [a2]; exact IntWalk.i64_in _ (by omega)
      have hw1' : IntKind.i64.wrap q1 = q1 := IntWalk.i64_in _ (by omega)
      by_cases q : d < 0
      · have cd : decide (d < 0) = true := decide_eq_true q
        obtain ⟨b1, b2, b3, b4, b5, b6⟩ := hneg (by omega)
        have hN := hc1 (by omega)
        have hw2 : IntKind.i64.wrap (q2 * r) = n2 := by rw [b2]; exact IntWalk.i64_in _ (by omega)
        have hw2' : IntKind.i64.wrap q2 = q2 := IntWalk.i64_in _ (by omega)
        obtain ⟨N, hNe⟩ : ∃ N, N = -n2 := ⟨_, rfl⟩
        have hw3 : IntKind.i64.wrap (-n2) = N := by rw [hNe]; exact IntWalk.i64_in _ (by omega)
        rw [hN, ← hNe]
        have hNb : -1000000000 ≤ N ∧ N ≤ 0 := by omega
        clear hN hNe b2 b3 b4
        clear hneg hc1 hc2 hc3 a2 a3 a4 q
        have hm := l1Most_eq N (by omega)
        obtain ⟨M, hM⟩ : ∃ M, M = absI N := ⟨_, rfl⟩
        have HM := am_ (show spec_l1Most.f N (-N) = some M from by rw [hM]; exact hm)
        have hE : callEnd N m = if M < m then (0, true) else if -1000000000 ≤ N ∧ N ≤ 1000000000 then (N, true) else (0, false) := by rw [hM]; rfl
        rw [hE]
        clear hm hM hE
        have hw4 : IntKind.i64.wrap (-N) = -N := IntWalk.i64_in _ (by omega)
        by_cases q3 : M < m
        · rw [if_pos q3]
          have cm : decide (M < m) = true := decide_eq_true q3
          clear q3
          have ha := l2Amount_eq 0
          rw [decide_eq_true (by omega)] at ha
          have HA := am_ ha
          clear ha
          go_enter Try.func22, Try.ntmps22
          go_wp2_with ((((with_reducible refine gate_dst (N := 5) rfl ?_); refine box_event ?hg (N := 5) ?hd (cs := #[.int .i64 i, .int .i64 t, .int .i64 m, .int .i64 r]) (t := 26) ?hr ?_; (case hd => rfl); (case hg => rfl); (case hr => first | (go_simp; done) | (go_simp; rfl))); intro g1 hg w_g1 hbox hb; have n_ := am_ (below_step (by repeat first | (with_reducible first | exact HB.out | apply ba_ | apply bn_ | apply bd_) | exact HB.out) hb); have BKg1 := am_ hbox; have GEg1 := am_ (show w.heap.size ≤ g1 from by rw [hg]; exact below_size (by repeat first | (with_reducible first | exact HB.out | apply ba_ | apply bn_ | apply bd_) | exact HB.out)); clear HB ; have HB := n_; clear n_ hb hbox hg); have yg1_0 : w_g1.cell? ⟨g1, 0, none⟩ = some (.int .i64 i) := (blk_cell BKg1.out 0).trans rfl; have fg1_0 := blk_frozen BKg1.out 0; have yg1_1 : w_g1.cell? ⟨g1, 1, none⟩ = some (.int .i64 t) := (blk_cell BKg1.out 1).trans rfl; have fg1_1 := blk_frozen BKg1.out 1; have yg1_2 : w_g1.cell? ⟨g1, 2, none⟩ = some (.int .i64 m) := (blk_cell BKg1.out 2).trans rfl; have fg1_2 := blk_frozen BKg1.out 2; have yg1_3 : w_g1.cell? ⟨g1, 3, none⟩ = some (.int .i64 r) := (blk_cell BKg1.out 3).trans rfl; have fg1_3 := blk_frozen BKg1.out 3)
          clear yg1_0 fg1_0 yg1_1 fg1_1 yg1_2 fg1_2 yg1_3 fg1_3
          refine (spec_RequiredAmount.calls e i t m r _ _ _ HQ.out).mono ?_
          rintro e2 w1 ⟨rfl, hb⟩
          replace BKg1 := am_ (blk_below (blk_below BKg1.out (by repeat first | exact Below.refl _ _ | apply ba_ | apply bn_ | apply bd_)) hb); replace HB := am_ (below_step (by repeat first | (with_reducible first | exact HB.out | apply ba_ | apply bn_ | apply bd_) | exact HB.out) hb); clear hb
          have yg1_0 : w1.cell? ⟨g1, 0, none⟩ = some (.int .i64 i) := (blk_cell BKg1.out 0).trans rfl; have fg1_0 := blk_frozen BKg1.out 0; have yg1_1 : w1.cell? ⟨g1, 1, none⟩ = some (.int .i64 t) := (blk_cell BKg1.out 1).trans rfl; have fg1_1 := blk_frozen BKg1.out 1; have yg1_2 : w1.cell? ⟨g1, 2, none⟩ = some (.int .i64 m) := (blk_cell BKg1.out 2).trans rfl; have fg1_2 := blk_frozen BKg1.out 2; have yg1_3 : w1.cell? ⟨g1, 3, none⟩ = some (.int .i64 r) := (blk_cell BKg1.out 3).trans rfl; have fg1_3 := blk_frozen BKg1.out 3
          go_wp2_with fail
          clear yg1_0 fg1_0 yg1_1 fg1_1 yg1_2 fg1_2 yg1_3 fg1_3
          refine (spec_l1In.calls h 0 1000000000 true _ HIN.out).mono ?_
          rintro e2 w2 ⟨rfl, hb0⟩
          have hb := db_ hb0
          clear hb0
          replace BKg1 := am_ (blk_below (blk_below BKg1.out (by repeat first | exact Below.refl _ _ | apply ba_ | apply bn_ | apply bd_)) hb); replace HB := am_ (below_step (by repeat first | (with_reducible first | exact HB.out | apply ba_ | apply bn_ | apply bd_) | exact HB.out) hb); clear hb
          have yg1_0 : w2.cell? ⟨g1, 0, none⟩ = some (.int .i64 i) := (blk_cell BKg1.out 0).trans rfl; have fg1_0 := blk_frozen BKg1.out 0; have yg1_1 : w2.cell? ⟨g1, 1, none⟩ = some (.int .i64 t) := (blk_cell BKg1.out 1).trans rfl; have fg1_1 := blk_frozen BKg1.out 1; have yg1_2 : w2.cell? ⟨g1, 2, none⟩ = some (.int .i64 m) := (blk_cell BKg1.out 2).trans rfl; have fg1_2 := blk_frozen BKg1.out 2; have yg1_3 : w2.cell? ⟨g1, 3, none⟩ = some (.int .i64 r) := (blk_cell BKg1.out 3).trans rfl; have fg1_3 := blk_frozen BKg1.out 3
          go_wp2_with fail
          go_quiet (fail)
          go_wp2_with fail
          go_quiet (fail)
          go_wp2_with fail
          go_quiet ((go_at_call 57; refine (spec_l1Most.calls N (-N) M _ HM.out).mono ?_; rintro e_ w_ ⟨rfl, ⟨nd, rfl⟩⟩; first | exact ⟨rfl, _, World.drewN_drewN _ _ _⟩ | exact ⟨rfl, _, Eq.trans (World.drewN_drewN _ _ _) (congrArg (World.drewN _) (Nat.add_assoc _ _ _))⟩))
          go_wp2_with fail
          refine (spec_l2Amount.calls 0 true _ HA.out).mono ?_
          rintro e2 w4 ⟨rfl, ⟨nq2, rfl⟩⟩
          go_wp2
          go_ret2
          exact ⟨rfl, (by repeat first | (with_reducible first | exact HB.out | apply ba_ | apply bn_ | apply bd_ | refine below_set ?_ GEg1.out) | exact HB.out)⟩
        · rw [if_neg q3]
          have cm : decide (M < m) = false := decide_eq_false q3
          clear q3
          have ha := l2Amount_eq N
          by_cases q4 : -1000000000 ≤ N ∧ N ≤ 1000000000
          · rw [if_pos q4]
            rw [decide_eq_true q4] at ha
            have HA := am_ ha
            clear ha q4
            go_enter Try.func22, Try.ntmps22
            go_wp2_with ((((with_reducible refine gate_dst (N := 5) rfl ?_); refine box_event ?hg (N := 5) ?hd (cs := #[.int .i64 i, .int .i64 t, .int .i64 m, .int .i64 r]) (t := 26) ?hr ?_; (case hd => rfl); (case hg => rfl); (case hr => first | (go_simp; done) | (go_simp; rfl))); intro g1 hg w_g1 hbox hb; have n_ := am_ (below_step (by repeat first | (with_reducible first | exact HB.out | apply ba_ | apply bn_ | apply bd_) | exact HB.out) hb); have BKg1 := am_ hbox; have GEg1 := am_ (show w.heap.size ≤ g1 from by rw [hg]; exact below_size (by repeat first | (with_reducible first | exact HB.out | apply ba_ | apply bn_ | apply bd_) | exact HB.out)); clear HB ; have HB := n_; clear n_ hb hbox hg); have yg1_0 : w_g1.cell? ⟨g1, 0, none⟩ = some (.int .i64 i) := (blk_cell BKg1.out 0).trans rfl; have fg1_0 := blk_frozen BKg1.out 0; have yg1_1 : w_g1.cell? ⟨g1, 1, none⟩ = some (.int .i64 t) := (blk_cell BKg1.out 1).trans rfl; have fg1_1 := blk_frozen BKg1.out 1; have yg1_2 : w_g1.cell? ⟨g1, 2, none⟩ = some (.int .i64 m) := (blk_cell BKg1.out 2).trans rfl; have fg1_2 := blk_frozen BKg1.out 2; have yg1_3 : w_g1.cell? ⟨g1, 3, none⟩ = some (.int .i64 r) := (blk_cell BKg1.out 3).trans rfl; have fg1_3 := blk_frozen BKg1.out 3)
            clear yg1_0 fg1_0 yg1_1 fg1_1 yg1_2 fg1_2 yg1_3 fg1_3
            refine (spec_RequiredAmount.calls e i t m r _ _ _ HQ.out).mono ?_
            rintro e2 w1 ⟨rfl, hb⟩
            replace BKg1 := am_ (blk_below (blk_below BKg1.out (by repeat first | exact Below.refl _ _ | apply ba_ | apply bn_ | apply bd_)) hb); replace HB := am_ (below_step (by repeat first | (with_reducible first | exact HB.out | apply ba_ | apply bn_ | apply bd_) | exact HB.out) hb); clear hb
            have yg1_0 : w1.cell? ⟨g1, 0, none⟩ = some (.int .i64 i) := (blk_cell BKg1.out 0).trans rfl; have fg1_0 := blk_frozen BKg1.out 0; have yg1_1 : w1.cell? ⟨g1, 1, none⟩ = some (.int .i64 t) := (blk_cell BKg1.out 1).trans rfl; have fg1_1 := blk_frozen BKg1.out 1; have yg1_2 : w1.cell? ⟨g1, 2, none⟩ = some (.int .i64 m) := (blk_cell BKg1.out 2).trans rfl; have fg1_2 := blk_frozen BKg1.out 2; have yg1_3 : w1.cell? ⟨g1, 3, none⟩ = some (.int .i64 r) := (blk_cell BKg1.out 3).trans rfl; have fg1_3 := blk_frozen BKg1.out 3
            go_wp2_with fail
            clear yg1_0 fg1_0 yg1_1 fg1_1 yg1_2 fg1_2 yg1_3 fg1_3
            refine (spec_l1In.calls h 0 1000000000 true _ HIN.out).mono ?_
            rintro e2 w2 ⟨rfl, hb0⟩
            have hb := db_ hb0
            clear hb0
            replace BKg1 := am_ (blk_below (blk_below BKg1.out (by repeat first | exact Below.refl _ _ | apply ba_ | apply bn_ | apply bd_)) hb); replace HB := am_ (below_step (by repeat first | (with_reducible first | exact HB.out | apply ba_ | apply bn_ | apply bd_) | exact HB.out) hb); clear hb
            have yg1_0 : w2.cell? ⟨g1, 0, none⟩ = some (.int .i64 i) := (blk_cell BKg1.out 0).trans rfl; have fg1_0 := blk_frozen BKg1.out 0; have yg1_1 : w2.cell? ⟨g1, 1, none⟩ = some (.int .i64 t) := (blk_cell BKg1.out 1).trans rfl; have fg1_1 := blk_frozen BKg1.out 1; have yg1_2 : w2.cell? ⟨g1, 2, none⟩ = some (.int .i64 m) := (blk_cell BKg1.out 2).trans rfl; have fg1_2 := blk_frozen BKg1.out 2; have yg1_3 : w2.cell? ⟨g1, 3, none⟩ = some (.int .i64 r) := (blk_cell BKg1.out 3).trans rfl; have fg1_3 := blk_frozen BKg1.out 3
            go_wp2_with fail
            go_quiet (fail)
            go_wp2_with fail
            go_quiet (fail)
            go_wp2_with fail
            go_quiet ((go_at_call 57; refine (spec_l1Most.calls N (-N) M _ HM.out).mono ?_; rintro e_ w_ ⟨rfl, ⟨nd, rfl⟩⟩; first | exact ⟨rfl, _, World.drewN_drewN _ _ _⟩ | exact ⟨rfl, _, Eq.trans (World.drewN_drewN _ _ _) (congrArg (World.drewN _) (Nat.add_assoc _ _ _))⟩))
            go_wp2_with fail
            refine (spec_l2Amount.calls N true _ HA.out).mono ?_
            rintro e2 w4 ⟨rfl, ⟨nq2, rfl⟩⟩
            go_wp2
            go_ret2
            exact ⟨rfl, (by repeat first | (with_reducible first | exact HB.out | apply ba_ | apply bn_ | apply bd_ | refine below_set ?_ GEg1.out) | exact HB.out)⟩
          · rw [if_neg q4]
            rw [decide_eq_false q4] at ha
            have HA := am_ ha
            clear ha q4
            go_enter Try.func22, Try.ntmps22
            go_wp2_with ((((with_reducible refine gate_dst (N := 5) rfl ?_); refine box_event ?hg (N := 5) ?hd (cs := #[.int .i64 i, .int .i64 t, .int .i64 m, .int .i64 r]) (t := 26) ?hr ?_; (case hd => rfl); (case hg => rfl); (case hr => first | (go_simp; done) | (go_simp; rfl))); intro g1 hg w_g1 hbox hb; have n_ := am_ (below_step (by repeat first | (with_reducible first | exact HB.out | apply ba_ | apply bn_ | apply bd_) | exact HB.out) hb); have BKg1 := am_ hbox; have GEg1 := am_ (show w.heap.size ≤ g1 from by rw [hg]; exact below_size (by repeat first | (with_reducible first | exact HB.out | apply ba_ | apply bn_ | apply bd_) | exact HB.out)); clear HB ; have HB := n_; clear n_ hb hbox hg); have yg1_0 : w_g1.cell? ⟨g1, 0, none⟩ = some (.int .i64 i) := (blk_cell BKg1.out 0).trans rfl; have fg1_0 := blk_frozen BKg1.out 0; have yg1_1 : w_g1.cell? ⟨g1, 1, none⟩ = some (.int .i64 t) := (blk_cell BKg1.out 1).trans rfl; have fg1_1 := blk_frozen BKg1.out 1; have yg1_2 : w_g1.cell? ⟨g1, 2, none⟩ = some (.int .i64 m) := (blk_cell BKg1.out 2).trans rfl; have fg1_2 := blk_frozen BKg1.out 2; have yg1_3 : w_g1.cell? ⟨g1, 3, none⟩ = some (.int .i64 r) := (blk_cell BKg1.out 3).trans rfl; have fg1_3 := blk_frozen BKg1.out 3)
            clear yg1_0 fg1_0 yg1_1 fg1_1 yg1_2 fg1_2 yg1_3 fg1_3
            refine (spec_RequiredAmount.calls e i t m r _ _ _ HQ.out).mono ?_
            rintro e2 w1 ⟨rfl, hb⟩
            replace BKg1 := am_ (blk_below (blk_below BKg1.out (by repeat first | exact Below.refl _ _ | apply ba_ | apply bn_ | apply bd_)) hb); replace HB := am_ (below_step (by repeat first | (with_reducible first | exact HB.out | apply ba_ | apply bn_ | apply bd_) | exact HB.out) hb); clear hb
            have yg1_0 : w1.cell? ⟨g1, 0, none⟩ = some (.int .i64 i) := (blk_cell BKg1.out 0).trans rfl; have fg1_0 := blk_frozen BKg1.out 0; have yg1_1 : w1.cell? ⟨g1, 1, none⟩ = some (.int .i64 t) := (blk_cell BKg1.out 1).trans rfl; have fg1_1 := blk_frozen BKg1.out 1; have yg1_2 : w1.cell? ⟨g1, 2, none⟩ = some (.int .i64 m) := (blk_cell BKg1.out 2).trans rfl; have fg1_2 := blk_frozen BKg1.out 2; have yg1_3 : w1.cell? ⟨g1, 3, none⟩ = some (.int .i64 r) := (blk_cell BKg1.out 3).trans rfl; have fg1_3 := blk_frozen BKg1.out 3
            go_wp2_with fail
            clear yg1_0 fg1_0 yg1_1 fg1_1 yg1_2 fg1_2 yg1_3 fg1_3
            refine (spec_l1In.calls h 0 1000000000 true _ HIN.out).mono ?_
            rintro e2 w2 ⟨rfl, hb0⟩
            have hb := db_ hb0
            clear hb0
            replace BKg1 := am_ (blk_below (blk_below BKg1.out (by repeat first | exact Below.refl _ _ | apply ba_ | apply bn_ | apply bd_)) hb); replace HB := am_ (below_step (by repeat first | (with_reducible first | exact HB.out | apply ba_ | apply bn_ | apply bd_) | exact HB.out) hb); clear hb
            have yg1_0 : w2.cell? ⟨g1, 0, none⟩ = some (.int .i64 i) := (blk_cell BKg1.out 0).trans rfl; have fg1_0 := blk_frozen BKg1.out 0; have yg1_1 : w2.cell? ⟨g1, 1, none⟩ = some (.int .i64 t) := (blk_cell BKg1.out 1).trans rfl; have fg1_1 := blk_frozen BKg1.out 1; have yg1_2 : w2.cell? ⟨g1, 2, none⟩ = some (.int .i64 m) := (blk_cell BKg1.out 2).trans rfl; have fg1_2 := blk_frozen BKg1.out 2; have yg1_3 : w2.cell? ⟨g1, 3, none⟩ = some (.int .i64 r) := (blk_cell BKg1.out 3).trans rfl; have fg1_3 := blk_frozen BKg1.out 3
            go_wp2_with fail
            go_quiet (fail)
            go_wp2_with fail
            go_quiet (fail)
            go_wp2_with fail
            go_quiet ((go_at_call 57; refine (spec_l1Most.calls N (-N) M _ HM.out).mono ?_; rintro e_ w_ ⟨rfl, ⟨nd, rfl⟩⟩; first | exact ⟨rfl, _, World.drewN_drewN _ _ _⟩ | exact ⟨rfl, _, Eq.trans (World.drewN_drewN _ _ _) (congrArg (World.drewN _) (Nat.add_assoc _ _ _))⟩))
            go_wp2_with fail
            refine (spec_l2Amount.calls N false _ HA.out).mono ?_
            rintro e2 w4 ⟨rfl, ⟨nq2, rfl⟩⟩
            go_wp2
            go_ret2
            exact ⟨rfl, (by repeat first | (with_reducible first | exact HB.out | apply ba_ | apply bn_ | apply bd_ | refine below_set ?_ GEg1.out) | exact HB.out)⟩
      · have cd : decide (d < 0) = false := decide_eq_false q
        obtain ⟨hN, hN0⟩ := hc2 (by omega)
        obtain ⟨N, hNe⟩ : ∃ N, N = n1 := ⟨_, rfl⟩
        rw [hN, ← hNe]
        have hNb : 0 ≤ N ∧ N ≤ 4000000000 := by omega
        subst hNe
        clear hN
        clear hneg hc1 hc2 hc3 a2 a3 a4 q
        have hm := l1Most_eq N (by omega)
        obtain ⟨M, hM⟩ : ∃ M, M = absI N := ⟨_, rfl⟩
        have HM := am_ (show spec_l1Most.f N (-N) = some M from by rw [hM]; exact hm)
        have hE : callEnd N m = if M < m then (0, true) else if -1000000000 ≤ N ∧ N ≤ 1000000000 then (N, true) else (0, false) := by rw [hM]; rfl
        rw [hE]
        clear hm hM hE
        have hw4 : IntKind.i64.wrap (-N) = -N := IntWalk.i64_in _ (by omega)
        by_cases q3 : M < m
        · rw [if_pos q3]
          have cm : decide (M < m) = true := decide_eq_true q3
          clear q3
          have ha := l2Amount_eq 0
          rw [decide_eq_true (by omega)] at ha
          have HA := am_ ha
          clear ha
          go_enter Try.func22, Try.ntmps22
          go_wp2_with ((((with_reducible refine gate_dst (N := 5) rfl ?_); refine box_event ?hg (N := 5) ?hd (cs := #[.int .i64 i, .int .i64 t, .int .i64 m, .int .i64 r]) (t := 26) ?hr ?_; (case hd => rfl); (case hg => rfl); (case hr => first | (go_simp; done) | (go_simp; rfl))); intro g1 hg w_g1 hbox hb; have n_ := am_ (below_step (by repeat first | (with_reducible first | exact HB.out | apply ba_ | apply bn_ | apply bd_) | exact HB.out) hb); have BKg1 := am_ hbox; have GEg1 := am_ (show w.heap.size ≤ g1 from by rw [hg]; exact below_size (by repeat first | (with_reducible first | exact HB.out | apply ba_ | apply bn_ | apply bd_) | exact HB.out)); clear HB ; have HB := n_; clear n_ hb hbox hg); have yg1_0 : w_g1.cell? ⟨g1, 0, none⟩ = some (.int .i64 i) := (blk_cell BKg1.out 0).trans rfl; have fg1_0 := blk_frozen BKg1.out 0; have yg1_1 : w_g1.cell? ⟨g1, 1, none⟩ = some (.int .i64 t) := (blk_cell BKg1.out 1).trans rfl; have fg1_1 := blk_frozen BKg1.out 1; have yg1_2 : w_g1.cell? ⟨g1, 2, none⟩ = some (.int .i64 m) := (blk_cell BKg1.out 2).trans rfl; have fg1_2 := blk_frozen BKg1.out 2; have yg1_3 : w_g1.cell? ⟨g1, 3, none⟩ = some (.int .i64 r) := (blk_cell BKg1.out 3).trans rfl; have fg1_3 := blk_frozen BKg1.out 3)
          clear yg1_0 fg1_0 yg1_1 fg1_1 yg1_2 fg1_2 yg1_3 fg1_3
          refine (spec_RequiredAmount.calls e i t m r _ _ _ HQ.out).mono ?_
          rintro e2 w1 ⟨rfl, hb⟩
          replace BKg1 := am_ (blk_below (blk_below BKg1.out (by repeat first | exact Below.refl _ _ | apply ba_ | apply bn_ | apply bd_)) hb); replace HB := am_ (below_step (by repeat first | (with_reducible first | exact HB.out | apply ba_ | apply bn_ | apply bd_) | exact HB.out) hb); clear hb
          have yg1_0 : w1.cell? ⟨g1, 0, none⟩ = some (.int .i64 i) := (blk_cell BKg1.out 0).trans rfl; have fg1_0 := blk_frozen BKg1.out 0; have yg1_1 : w1.cell? ⟨g1, 1, none⟩ = some (.int .i64 t) := (blk_cell BKg1.out 1).trans rfl; have fg1_1 := blk_frozen BKg1.out 1; have yg1_2 : w1.cell? ⟨g1, 2, none⟩ = some (.int .i64 m) := (blk_cell BKg1.out 2).trans rfl; have fg1_2 := blk_frozen BKg1.out 2; have yg1_3 : w1.cell? ⟨g1, 3, none⟩ = some (.int .i64 r) := (blk_cell BKg1.out 3).trans rfl; have fg1_3 := blk_frozen BKg1.out 3
          go_wp2_with fail
          clear yg1_0 fg1_0 yg1_1 fg1_1 yg1_2 fg1_2 yg1_3 fg1_3
          refine (spec_l1In.calls h 0 1000000000 true _ HIN.out).mono ?_
          rintro e2 w2 ⟨rfl, hb0⟩
          have hb := db_ hb0
          clear hb0
          replace BKg1 := am_ (blk_below (blk_below BKg1.out (by repeat first | exact Below.refl _ _ | apply ba_ | apply bn_ | apply bd_)) hb); replace HB := am_ (below_step (by repeat first | (with_reducible first | exact HB.out | apply ba_ | apply bn_ | apply bd_) | exact HB.out) hb); clear hb
          have yg1_0 : w2.cell? ⟨g1, 0, none⟩ = some (.int .i64 i) := (blk_cell BKg1.out 0).trans rfl; have fg1_0 := blk_frozen BKg1.out 0; have yg1_1 : w2.cell? ⟨g1, 1, none⟩ = some (.int .i64 t) := (blk_cell BKg1.out 1).trans rfl; have fg1_1 := blk_frozen BKg1.out 1; have yg1_2 : w2.cell? ⟨g1, 2, none⟩ = some (.int .i64 m) := (blk_cell BKg1.out 2).trans rfl; have fg1_2 := blk_frozen BKg1.out 2; have yg1_3 : w2.cell? ⟨g1, 3, none⟩ = some (.int .i64 r) := (blk_cell BKg1.out 3).trans rfl; have fg1_3 := blk_frozen BKg1.out 3
          go_wp2_with fail
          go_quiet (fail)
          go_wp2_with fail
          go_quiet ((go_at_call 57; refine (spec_l1Most.calls N (-N) M _ HM.out).mono ?_; rintro e_ w_ ⟨rfl, ⟨nd, rfl⟩⟩; first | exact ⟨rfl, _, World.drewN_drewN _ _ _⟩ | exact ⟨rfl, _, Eq.trans (World.drewN_drewN _ _ _) (congrArg (World.drewN _) (Nat.add_assoc _ _ _))⟩))
          go_wp2_with fail
          refine (spec_l2Amount.calls 0 true _ HA.out).mono ?_
          rintro e2 w4 ⟨rfl, ⟨nq2, rfl⟩⟩
          go_wp2
          go_ret2
          exact ⟨rfl, (by repeat first | (with_reducible first | exact HB.out | apply ba_ | apply bn_ | apply bd_ | refine below_set ?_ GEg1.out) | exact HB.out)⟩
        · rw [if_neg q3]
          have cm : decide (M < m) = false := decide_eq_false q3
          clear q3
          have ha := l2Amount_eq N
          by_cases q4 : -1000000000 ≤ N ∧ N ≤ 1000000000
          · rw [if_pos q4]
            rw [decide_eq_true q4] at ha
            have HA := am_ ha
            clear ha q4
            go_enter Try.func22, Try.ntmps22
            go_wp2_with ((((with_reducible refine gate_dst (N := 5) rfl ?_); refine box_event ?hg (N := 5) ?hd (cs := #[.int .i64 i, .int .i64 t, .int .i64 m, .int .i64 r]) (t := 26) ?hr ?_; (case hd => rfl); (case hg => rfl); (case hr => first | (go_simp; done) | (go_simp; rfl))); intro g1 hg w_g1 hbox hb; have n_ := am_ (below_step (by repeat first | (with_reducible first | exact HB.out | apply ba_ | apply bn_ | apply bd_) | exact HB.out) hb); have BKg1 := am_ hbox; have GEg1 := am_ (show w.heap.size ≤ g1 from by rw [hg]; exact below_size (by repeat first | (with_reducible first | exact HB.out | apply ba_ | apply bn_ | apply bd_) | exact HB.out)); clear HB ; have HB := n_; clear n_ hb hbox hg); have yg1_0 : w_g1.cell? ⟨g1, 0, none⟩ = some (.int .i64 i) := (blk_cell BKg1.out 0).trans rfl; have fg1_0 := blk_frozen BKg1.out 0; have yg1_1 : w_g1.cell? ⟨g1, 1, none⟩ = some (.int .i64 t) := (blk_cell BKg1.out 1).trans rfl; have fg1_1 := blk_frozen BKg1.out 1; have yg1_2 : w_g1.cell? ⟨g1, 2, none⟩ = some (.int .i64 m) := (blk_cell BKg1.out 2).trans rfl; have fg1_2 := blk_frozen BKg1.out 2; have yg1_3 : w_g1.cell? ⟨g1, 3, none⟩ = some (.int .i64 r) := (blk_cell BKg1.out 3).trans rfl; have fg1_3 := blk_frozen BKg1.out 3)
            clear yg1_0 fg1_0 yg1_1 fg1_1 yg1_2 fg1_2 yg1_3 fg1_3
            refine (spec_RequiredAmount.calls e i t m r _ _ _ HQ.out).mono ?_
            rintro e2 w1 ⟨rfl, hb⟩
            replace BKg1 := am_ (blk_below (blk_below BKg1.out (by repeat first | exact Below.refl _ _ | apply ba_ | apply bn_ | apply bd_)) hb); replace HB := am_ (below_step (by repeat first | (with_reducible first | exact HB.out | apply ba_ | apply bn_ | apply bd_) | exact HB.out) hb); clear hb
            have yg1_0 : w1.cell? ⟨g1, 0, none⟩ = some (.int .i64 i) := (blk_cell BKg1.out 0).trans rfl; have fg1_0 := blk_frozen BKg1.out 0; have yg1_1 : w1.cell? ⟨g1, 1, none⟩ = some (.int .i64 t) := (blk_cell BKg1.out 1).trans rfl; have fg1_1 := blk_frozen BKg1.out 1; have yg1_2 : w1.cell? ⟨g1, 2, none⟩ = some (.int .i64 m) := (blk_cell BKg1.out 2).trans rfl; have fg1_2 := blk_frozen BKg1.out 2; have yg1_3 : w1.cell? ⟨g1, 3, none⟩ = some (.int .i64 r) := (blk_cell BKg1.out 3).trans rfl; have fg1_3 := blk_frozen BKg1.out 3
            go_wp2_with fail
            clear yg1_0 fg1_0 yg1_1 fg1_1 yg1_2 fg1_2 yg1_3 fg1_3
            refine (spec_l1In.calls h 0 1000000000 true _ HIN.out).mono ?_
            rintro e2 w2 ⟨rfl, hb0⟩
            have hb := db_ hb0
            clear hb0
            replace BKg1 := am_ (blk_below (blk_below BKg1.out (by repeat first | exact Below.refl _ _ | apply ba_ | apply bn_ | apply bd_)) hb); replace HB := am_ (below_step (by repeat first | (with_reducible first | exact HB.out | apply ba_ | apply bn_ | apply bd_) | exact HB.out) hb); clear hb
            have yg1_0 : w2.cell? ⟨g1, 0, none⟩ = some (.int .i64 i) := (blk_cell BKg1.out 0).trans rfl; have fg1_0 := blk_frozen BKg1.out 0; have yg1_1 : w2.cell? ⟨g1, 1, none⟩ = some (.int .i64 t) := (blk_cell BKg1.out 1).trans rfl; have fg1_1 := blk_frozen BKg1.out 1; have yg1_2 : w2.cell? ⟨g1, 2, none⟩ = some (.int .i64 m) := (blk_cell BKg1.out 2).trans rfl; have fg1_2 := blk_frozen BKg1.out 2; have yg1_3 : w2.cell? ⟨g1, 3, none⟩ = some (.int .i64 r) := (blk_cell BKg1.out 3).trans rfl; have fg1_3 := blk_frozen BKg1.out 3
            go_wp2_with fail
            go_quiet (fail)
            go_wp2_with fail
            go_quiet ((go_at_call 57; refine (spec_l1Most.calls N (-N) M _ HM.out).mono ?_; rintro e_ w_ ⟨rfl, ⟨nd, rfl⟩⟩; first | exact ⟨rfl, _, World.drewN_drewN _ _ _⟩ | exact ⟨rfl, _, Eq.trans (World.drewN_drewN _ _ _) (congrArg (World.drewN _) (Nat.add_assoc _ _ _))⟩))
            go_wp2_with fail
            refine (spec_l2Amount.calls N true _ HA.out).mono ?_
            rintro e2 w4 ⟨rfl, ⟨nq2, rfl⟩⟩
            go_wp2
            go_ret2
            exact ⟨rfl, (by repeat first | (with_reducible first | exact HB.out | apply ba_ | apply bn_ | apply bd_ | refine below_set ?_ GEg1.out) | exact HB.out)⟩
          · rw [if_neg q4]
            rw [decide_eq_false q4] at ha
            have HA := am_ ha
            clear ha q4
            go_enter Try.func22, Try.ntmps22
            go_wp2_with ((((with_reducible refine gate_dst (N := 5) rfl ?_); refine box_event ?hg (N := 5) ?hd (cs := #[.int .i64 i, .int .i64 t, .int .i64 m, .int .i64 r]) (t := 26) ?hr ?_; (case hd => rfl); (case hg => rfl); (case hr => first | (go_simp; done) | (go_simp; rfl))); intro g1 hg w_g1 hbox hb; have n_ := am_ (below_step (by repeat first | (with_reducible first | exact HB.out | apply ba_ | apply bn_ | apply bd_) | exact HB.out) hb); have BKg1 := am_ hbox; have GEg1 := am_ (show w.heap.size ≤ g1 from by rw [hg]; exact below_size (by repeat first | (with_reducible first | exact HB.out | apply ba_ | apply bn_ | apply bd_) | exact HB.out)); clear HB ; have HB := n_; clear n_ hb hbox hg); have yg1_0 : w_g1.cell? ⟨g1, 0, none⟩ = some (.int .i64 i) := (blk_cell BKg1.out 0).trans rfl; have fg1_0 := blk_frozen BKg1.out 0; have yg1_1 : w_g1.cell? ⟨g1, 1, none⟩ = some (.int .i64 t) := (blk_cell BKg1.out 1).trans rfl; have fg1_1 := blk_frozen BKg1.out 1; have yg1_2 : w_g1.cell? ⟨g1, 2, none⟩ = some (.int .i64 m) := (blk_cell BKg1.out 2).trans rfl; have fg1_2 := blk_frozen BKg1.out 2; have yg1_3 : w_g1.cell? ⟨g1, 3, none⟩ = some (.int .i64 r) := (blk_cell BKg1.out 3).trans rfl; have fg1_3 := blk_frozen BKg1.out 3)
            clear yg1_0 fg1_0 yg1_1 fg1_1 yg1_2 fg1_2 yg1_3 fg1_3
            refine (spec_RequiredAmount.calls e i t m r _ _ _ HQ.out).mono ?_
            rintro e2 w1 ⟨rfl, hb⟩
            replace BKg1 := am_ (blk_below (blk_below BKg1.out (by repeat first | exact Below.refl _ _ | apply ba_ | apply bn_ | apply bd_)) hb); replace HB := am_ (below_step (by repeat first | (with_reducible first | exact HB.out | apply ba_ | apply bn_ | apply bd_) | exact HB.out) hb); clear hb
            have yg1_0 : w1.cell? ⟨g1, 0, none⟩ = some (.int .i64 i) := (blk_cell BKg1.out 0).trans rfl; have fg1_0 := blk_frozen BKg1.out 0; have yg1_1 : w1.cell? ⟨g1, 1, none⟩ = some (.int .i64 t) := (blk_cell BKg1.out 1).trans rfl; have fg1_1 := blk_frozen BKg1.out 1; have yg1_2 : w1.cell? ⟨g1, 2, none⟩ = some (.int .i64 m) := (blk_cell BKg1.out 2).trans rfl; have fg1_2 := blk_frozen BKg1.out 2; have yg1_3 : w1.cell? ⟨g1, 3, none⟩ = some (.int .i64 r) := (blk_cell BKg1.out 3).trans rfl; have fg1_3 := blk_frozen BKg1.out 3
            go_wp2_with fail
            clear yg1_0 fg1_0 yg1_1 fg1_1 yg1_2 fg1_2 yg1_3 fg1_3
            refine (spec_l1In.calls h 0 1000000000 true _ HIN.out).mono ?_
            rintro e2 w2 ⟨rfl, hb0⟩
            have hb := db_ hb0
            clear hb0
            replace BKg1 := am_ (blk_below (blk_below BKg1.out (by repeat first | exact Below.refl _ _ | apply ba_ | apply bn_ | apply bd_)) hb); replace HB := am_ (below_step (by repeat first | (with_reducible first | exact HB.out | apply ba_ | apply bn_ | apply bd_) | exact HB.out) hb); clear hb
            have yg1_0 : w2.cell? ⟨g1, 0, none⟩ = some (.int .i64 i) := (blk_cell BKg1.out 0).trans rfl; have fg1_0 := blk_frozen BKg1.out 0; have yg1_1 : w2.cell? ⟨g1, 1, none⟩ = some (.int .i64 t) := (blk_cell BKg1.out 1).trans rfl; have fg1_1 := blk_frozen BKg1.out 1; have yg1_2 : w2.cell? ⟨g1, 2, none⟩ = some (.int .i64 m) := (blk_cell BKg1.out 2).trans rfl; have fg1_2 := blk_frozen BKg1.out 2; have yg1_3 : w2.cell? ⟨g1, 3, none⟩ = some (.int .i64 r) := (blk_cell BKg1.out 3).trans rfl; have fg1_3 := blk_frozen BKg1.out 3
            go_wp2_with fail
            go_quiet (fail)
            go_wp2_with fail
            go_quiet ((go_at_call 57; refine (spec_l1Most.calls N (-N) M _ HM.out).mono ?_; rintro e_ w_ ⟨rfl, ⟨nd, rfl⟩⟩; first | exact ⟨rfl, _, World.drewN_drewN _ _ _⟩ | exact ⟨rfl, _, Eq.trans (World.drewN_drewN _ _ _) (congrArg (World.drewN _) (Nat.add_assoc _ _ _))⟩))
            go_wp2_with fail
            refine (spec_l2Amount.calls N false _ HA.out).mono ?_
            rintro e2 w4 ⟨rfl, ⟨nq2, rfl⟩⟩
            go_wp2
            go_ret2
            exact ⟨rfl, (by repeat first | (with_reducible first | exact HB.out | apply ba_ | apply bn_ | apply bd_ | refine below_set ?_ GEg1.out) | exact HB.out)⟩
    · rw [if_neg ch]
      rw [decide_eq_false ch] at hin
      have HIN := am_ hin
      clear hin ch
      go_enter Try.func22, Try.ntmps22
      go_wp2_with ((((with_reducible refine gate_dst (N := 5) rfl ?_); refine box_event ?hg (N := 5) ?hd (cs := #[.int .i64 i, .int .i64 t, .int .i64 m, .int .i64 r]) (t := 26) ?hr ?_; (case hd => rfl); (case hg => rfl); (case hr => first | (go_simp; done) | (go_simp; rfl))); intro g1 hg w_g1 hbox hb; have n_ := am_ (below_step (by repeat first | (with_reducible first | exact HB.out | apply ba_ | apply bn_ | apply bd_) | exact HB.out) hb); have BKg1 := am_ hbox; have GEg1 := am_ (show w.heap.size ≤ g1 from by rw [hg]; exact below_size (by repeat first | (with_reducible first | exact HB.out | apply ba_ | apply bn_ | apply bd_) | exact HB.out)); clear HB ; have HB := n_; clear n_ hb hbox hg); have yg1_0 : w_g1.cell? ⟨g1, 0, none⟩ = some (.int .i64 i) := (blk_cell BKg1.out 0).trans rfl; have fg1_0 := blk_frozen BKg1.out 0; have yg1_1 : w_g1.cell? ⟨g1, 1, none⟩ = some (.int .i64 t) := (blk_cell BKg1.out 1).trans rfl; have fg1_1 := blk_frozen BKg1.out 1; have yg1_2 : w_g1.cell? ⟨g1, 2, none⟩ = some (.int .i64 m) := (blk_cell BKg1.out 2).trans rfl; have fg1_2 := blk_frozen BKg1.out 2; have yg1_3 : w_g1.cell? ⟨g1, 3, none⟩ = some (.int .i64 r) := (blk_cell BKg1.out 3).trans rfl; have fg1_3 := blk_frozen BKg1.out 3)
      clear yg1_0 fg1_0 yg1_1 fg1_1 yg1_2 fg1_2 yg1_3 fg1_3
      refine (spec_RequiredAmount.calls e i t m r _ _ _ HQ.out).mono ?_
      rintro e2 w1 ⟨rfl, hb⟩
      replace BKg1 := am_ (blk_below (blk_below BKg1.out (by repeat first | exact Below.refl _ _ | apply ba_ | apply bn_ | apply bd_)) hb); replace HB := am_ (below_step (by repeat first | (with_reducible first | exact HB.out | apply ba_ | apply bn_ | apply bd_) | exact HB.out) hb); clear hb
      go_wp2_with fail
      refine (spec_l1In.calls h 0 1000000000 false _ HIN.out).mono ?_
      rintro e2 w2 ⟨rfl, hb0⟩
      have hb := db_ hb0
      clear hb0
      replace BKg1 := am_ (blk_below (blk_below BKg1.out (by repeat first | exact Below.refl _ _ | apply ba_ | apply bn_ | apply bd_)) hb); replace HB := am_ (below_step (by repeat first | (with_reducible first | exact HB.out | apply ba_ | apply bn_ | apply bd_) | exact HB.out) hb); clear hb
      go_wp2
      go_ret2
      exact ⟨rfl, (by repeat first | (with_reducible first | exact HB.out | apply ba_ | apply bn_ | apply bd_ | refine below_set ?_ GEg1.out) | exact HB.out)⟩
  · rw [reqA_no c] at hq
    have hA : callA e h i t m r = (0, false) := by unfold callA; rw [if_neg (fun g => c g.1)]
    rw [hA]
    have HQ := am_ hq
    clear hq hA c hin
    go_enter Try.func22, Try.ntmps22
    go_wp2_with ((((with_reducible refine gate_dst (N := 5) rfl ?_); refine box_event ?hg (N := 5) ?hd (cs := #[.int .i64 i, .int .i64 t, .int .i64 m, .int .i64 r]) (t := 26) ?hr ?_; (case hd => rfl); (case hg => rfl); (case hr => first | (go_simp; done) | (go_simp; rfl))); intro g1 hg w_g1 hbox hb; have n_ := am_ (below_step (by repeat first | (with_reducible first | exact HB.out | apply ba_ | apply bn_ | apply bd_) | exact HB.out) hb); have BKg1 := am_ hbox; have GEg1 := am_ (show w.heap.size ≤ g1 from by rw [hg]; exact below_size (by repeat first | (with_reducible first | exact HB.out | apply ba_ | apply bn_ | apply bd_) | exact HB.out)); clear HB ; have HB := n_; clear n_ hb hbox hg); have yg1_0 : w_g1.cell? ⟨g1, 0, none⟩ = some (.int .i64 i) := (blk_cell BKg1.out 0).trans rfl; have fg1_0 := blk_frozen BKg1.out 0; have yg1_1 : w_g1.cell? ⟨g1, 1, none⟩ = some (.int .i64 t) := (blk_cell BKg1.out 1).trans rfl; have fg1_1 := blk_frozen BKg1.out 1; have yg1_2 : w_g1.cell? ⟨g1, 2, none⟩ = some (.int .i64 m) := (blk_cell BKg1.out 2).trans rfl; have fg1_2 := blk_frozen BKg1.out 2; have yg1_3 : w_g1.cell? ⟨g1, 3, none⟩ = some (.int .i64 r) := (blk_cell BKg1.out 3).trans rfl; have fg1_3 := blk_frozen BKg1.out 3)
    clear yg1_0 fg1_0 yg1_1 fg1_1 yg1_2 fg1_2 yg1_3 fg1_3
    refine (spec_RequiredAmount.calls e i t m r _ _ _ HQ.out).mono ?_
    rintro e2 w1 ⟨rfl, hb⟩
    replace BKg1 := am_ (blk_below (blk_below BKg1.out (by repeat first | exact Below.refl _ _ | apply ba_ | apply bn_ | apply bd_)) hb); replace HB := am_ (below_step (by repeat first | (with_reducible first | exact HB.out | apply ba_ | apply bn_ | apply bd_) | exact HB.out) hb); clear hb
    go_wp2
    go_ret2
    exact ⟨rfl, (by repeat first | (with_reducible first | exact HB.out | apply ba_ | apply bn_ | apply bd_ | refine below_set ?_ GEg1.out) | exact HB.out)⟩
set_option maxHeartbeats 8000000 in
set_option maxRecDepth 100000 in
theorem histS_c (A0 : Option Addr) (c0 : Nat) (xs : List Int) (i t m r : Int) (w : World) (hr0 : (Kd.int .i64).C w A0 xs.length xs) (hc0 : xs.length ≤ c0) (ha0 : 0 < xs.length → ∃ b, A0 = some ⟨b, 0, none⟩) (hn : xs.length ≤ 1048576) :
    Calls Try.prog 39 #[.slice A0 xs.length c0, .agg #[.int .i64 i, .int .i64 t, .int .i64 m, .int .i64 r]] w fun e2 w' => ∃ v, e2 = .returned (.tuple #[v, .bool (histA xs i t m r).2]) ∧ (Kd.int .i64).R 3 w' w.heap.size (fun _ => True) v (histA xs i t m r).1 ∧ Below w.heap.size w w' := by
  have HB := am_ (Below.refl w.heap.size w)
  have HR0 := am_ hr0
  have HC0 := am_ hc0
  have HA0 := am_ ha0
  clear hr0 hc0 ha0
  obtain ⟨ka, g1_⟩ := roundsOf (specAms_ev xs hn)
  have g2_ := l17Terms_eq i t m r
  by_cases ca : okAm xs
  · rw [decide_eq_true ca] at g1_
    have G1 := am_ g1_
    clear g1_
    by_cases ct : okT i t m r
    · rw [decide_eq_true ct] at g2_
      have G2 := am_ g2_
      clear g2_
      have hfin : histA xs i t m r = histL i t m r xs 0 [] := by unfold histA; rw [if_pos ⟨ca, ct⟩]
      rw [hfin]
      obtain ⟨FIN, hFIN⟩ : ∃ F, F = histL i t m r xs 0 [] := ⟨_, rfl⟩
      rw [← hFIN]
      have HF := am_ (show histL i t m r (xs.drop 0) 0 [] = FIN from hFIN.symm)
      have hn20 : xs.length ≤ 20 := ca.1
      clear hfin hFIN ca ct
      go_enter Try.func39, Try.ntmps39
      go_wp2_with (first
        | (((with_reducible refine gate_dst (N := 3) rfl ?_); refine box_event ?hg (N := 3) ?hd (cs := #[.int .i64 i, .int .i64 t, .int .i64 m, .int .i64 r]) (t := 26) ?hr ?_; (case hd => rfl); (case hg => rfl); (case hr => first | (go_simp; done) | (go_simp; rfl))); intro g1 hg w_g1 hbox hb; have n_ := am_ (below_step (by repeat first | (with_reducible first | exact HB.out | apply ba_ | apply bn_ | apply bd_) | exact HB.out) hb); have BKg1 := am_ hbox; have GEg1 := am_ (show w.heap.size ≤ g1 from by rw [hg]; exact below_size (by repeat first | (with_reducible first | exact HB.out | apply ba_ | apply bn_ | apply bd_) | exact HB.out)); clear HB ; have HB := n_; clear n_ hb hbox hg)
        | (((with_reducible refine gate_dst (N := 11) rfl ?_); refine Kd.R_lit (Kd.int .i64) w.heap.size 3 (w0 := w) ?hg (N := 11) ?hd (xs := []) (inner := []) (ok := fun _ => True) (okp := fun _ => True) ?hr ?hp (fun _ hk => hk) trivial (by repeat first | (with_reducible first | exact HB.out | apply ba_ | apply bn_ | apply bd_) | exact HB.out) (below_size (by repeat first | (with_reducible first | exact HB.out | apply ba_ | apply bn_ | apply bd_) | exact HB.out)) (by simp) ?_; (case hd => rfl); (case hg => rfl); (case hr => first | (go_simp; done) | (go_simp; rfl)); (case hp => exact (Reps.none _ _)); intro v1 w1 ho hb hgr hnw); have HOUT := am_ ho; have n_ := am_ (blk_grown BKg1.out hgr (by simp)); clear BKg1 HB; have BKg1 := n_; have HB := am_ hb; clear n_ ho hb hgr hnw))
      refine (spec_l2Amounts.calls ka A0 c0 xs true _ (by repeat first | exact (Kd.C_below HR0.out HB.out) | with_reducible refine ca_ ?_ _ | with_reducible refine cn_ ?_ _ | with_reducible refine cd_ ?_) HC0.out G1.out).mono ?_
      rintro e2 w1 ⟨rfl, hb0⟩
      have hb := db_ hb0
      clear hb0
      replace HOUT := am_ (Kd.R_below (by (with_reducible repeat first | apply ra_ | apply rn_ | apply rd_); exact HOUT.out) hb); replace BKg1 := am_ (blk_below (blk_below BKg1.out (by repeat first | exact Below.refl _ _ | apply ba_ | apply bn_ | apply bd_)) hb); replace HB := am_ (below_step (by repeat first | (with_reducible first | exact HB.out | apply ba_ | apply bn_ | apply bd_) | exact HB.out) hb); clear hb
      have yg1_0 : w1.cell? ⟨g1, 0, none⟩ = some (.int .i64 i) := (blk_cell BKg1.out 0).trans rfl; have fg1_0 := blk_frozen BKg1.out 0; have yg1_1 : w1.cell? ⟨g1, 1, none⟩ = some (.int .i64 t) := (blk_cell BKg1.out 1).trans rfl; have fg1_1 := blk_frozen BKg1.out 1; have yg1_2 : w1.cell? ⟨g1, 2, none⟩ = some (.int .i64 m) := (blk_cell BKg1.out 2).trans rfl; have fg1_2 := blk_frozen BKg1.out 2; have yg1_3 : w1.cell? ⟨g1, 3, none⟩ = some (.int .i64 r) := (blk_cell BKg1.out 3).trans rfl; have fg1_3 := blk_frozen BKg1.out 3
      go_wp2_with fail
      clear yg1_0 fg1_0 yg1_1 fg1_1 yg1_2 fg1_2 yg1_3 fg1_3
      refine (spec_l17Terms.calls i t m r true _ G2.out).mono ?_
      rintro e2 w2 ⟨rfl, hb⟩
      replace HOUT := am_ (Kd.R_below (by (with_reducible repeat first | apply ra_ | apply rn_ | apply rd_); exact HOUT.out) hb); replace BKg1 := am_ (blk_below (blk_below BKg1.out (by repeat first | exact Below.refl _ _ | apply ba_ | apply bn_ | apply bd_)) hb); replace HB := am_ (below_step (by repeat first | (with_reducible first | exact HB.out | apply ba_ | apply bn_ | apply bd_) | exact HB.out) hb); clear hb
      go_wp2_with fail
      go_loopw [6, 7, 8] (fun vo vh vk wr => ∃ (k : Nat) (h : Int) (out : List Int), vh = .int .i64 h ∧ vk = .int .i64 k ∧ Aside0 (k ≤ xs.length) ∧ Aside0 (-2000000000 ≤ h ∧ h ≤ 2000000000) ∧ Aside0 (out.length ≤ k) ∧ Aside0 (histL i t m r (xs.drop k) h out = FIN) ∧ Aside0 ((Kd.int .i64).R 3 wr w.heap.size (fun _ => True) vo out) ∧ Aside0 (wr.heap[g1]? = some (.cells #[.int .i64 i, .int .i64 t, .int .i64 m, .int .i64 r] 26 (0, 0))) ∧ Aside0 (Below w.heap.size w wr)) (fun _ _ vk _ => xs.length - (intOf vk).toNat)
      case atStart => exact ⟨0, 0, [], rfl, rfl, ⟨Nat.zero_le _⟩, ⟨by decide⟩, ⟨Nat.le_refl _⟩, HF, ⟨(by (with_reducible repeat first | apply ra_ | apply rn_ | apply rd_); exact HOUT.out)⟩, ⟨(by repeat (with_reducible first | exact BKg1.out | refine kn_ ?_ _ | refine kd_ ?_ | refine ka_ ?_ _))⟩, ⟨(by repeat first | (with_reducible first | exact HB.out | apply ba_ | apply bn_ | apply bd_) | exact HB.out)⟩⟩
      case round =>
        clear HF HOUT BKg1 HB
        obtain ⟨k, h, out, rfl, rfl, HI, HH, HOL, HF, HOUT, BKg1, HB⟩ := hrel
        by_cases hil : k < xs.length
        · have ci : decide (k < xs.length) = true := decide_eq_true hil
          obtain ⟨b0, e0⟩ := HA0.out (by omega)
          subst e0
          have hcx := cellsOfD HR0.out k hil
          rw [Nat.zero_add] at hcx
          obtain ⟨x, hx⟩ : ∃ x, x = xs.getD k 0 := ⟨_, rfl⟩
          rw [← hx] at hcx
          have HCX := am_ hcx
          have HBX := am_ (World.block_lt_of_cell? w _ hcx)
          obtain ⟨AC, hAC⟩ : ∃ F, F = callA x h i t m r := ⟨_, rfl⟩
          have hnb := callA_bd x h i t m r
          have hok := fun q : (callA x h i t m r).2 = true => callA_ok q
          rw [← hAC] at hnb hok
          obtain ⟨n, so⟩ := AC
          simp only at hnb hok
          have HAC := am_ hAC.symm
          have hst := histL_at (i := i) (t := t) (m := m) (r := r) hil h out hx.symm hAC.symm
          rw [HF.out] at hst
          have HST := am_ hst
          have hh1 := HH.out.1
          have hh2 := HH.out.2
          have hol : out.length ≤ 20 := by have := HOL.out; omega
          clear hst hAC hx
          replace hcx := (HB.out.cell HBX.out).trans hcx
          have yg1_0 : wr.cell? ⟨g1, 0, none⟩ = some (.int .i64 i) := (blk_cell BKg1.out 0).trans rfl; have fg1_0 := blk_frozen BKg1.out 0; have yg1_1 : wr.cell? ⟨g1, 1, none⟩ = some (.int .i64 t) := (blk_cell BKg1.out 1).trans rfl; have fg1_1 := blk_frozen BKg1.out 1; have yg1_2 : wr.cell? ⟨g1, 2, none⟩ = some (.int .i64 m) := (blk_cell BKg1.out 2).trans rfl; have fg1_2 := blk_frozen BKg1.out 2; have yg1_3 : wr.cell? ⟨g1, 3, none⟩ = some (.int .i64 r) := (blk_cell BKg1.out 3).trans rfl; have fg1_3 := blk_frozen BKg1.out 3
          go_upto_region 8 with (fail)
          go_region_held3 (fun w' => w'.cell? ⟨g1, 0, none⟩ = some (.int .i64 i) ∧ w'.cell? ⟨g1, 1, none⟩ = some (.int .i64 t) ∧ w'.cell? ⟨g1, 2, none⟩ = some (.int .i64 m) ∧ w'.cell? ⟨g1, 3, none⟩ = some (.int .i64 r) ∧ w'.cell? ⟨b0, k, none⟩ = some (.int .i64 x)) (go_keep)
            ((first
              | (go_at_call 22; refine (callS_c x h i t m r _).mono ?_; rw [HAC.out]; rintro e2 w1_ ⟨rfl, hb⟩; replace HOUT := am_ (Kd.R_below (by (with_reducible repeat first | apply ra_ | apply rn_ | apply rd_); exact HOUT.out) hb); replace BKg1 := am_ (blk_below (blk_below BKg1.out (by repeat first | exact Below.refl _ _ | apply ba_ | apply bn_ | apply bd_)) hb); replace HB := am_ (below_step (by repeat first | (with_reducible first | exact HB.out | apply ba_ | apply bn_ | apply bd_) | exact HB.out) hb); clear hb; clear hcx yg1_0 yg1_1 yg1_2 yg1_3 fg1_0 fg1_1 fg1_2 fg1_3; have hcx := (HB.out.cell HBX.out).trans HCX.out; have yg1_0 : w1_.cell? ⟨g1, 0, none⟩ = some (.int .i64 i) := (blk_cell BKg1.out 0).trans rfl; have fg1_0 := blk_frozen BKg1.out 0; have yg1_1 : w1_.cell? ⟨g1, 1, none⟩ = some (.int .i64 t) := (blk_cell BKg1.out 1).trans rfl; have fg1_1 := blk_frozen BKg1.out 1; have yg1_2 : w1_.cell? ⟨g1, 2, none⟩ = some (.int .i64 m) := (blk_cell BKg1.out 2).trans rfl; have fg1_2 := blk_frozen BKg1.out 2; have yg1_3 : w1_.cell? ⟨g1, 3, none⟩ = some (.int .i64 r) := (blk_cell BKg1.out 3).trans rfl; have fg1_3 := blk_frozen BKg1.out 3)))
          clear hcx
          clear yg1_0 fg1_0 yg1_1 fg1_1 yg1_2 fg1_2 yg1_3 fg1_3
          cases so with
          | false =>
            have HFZ := am_ (show FIN = ([], false) from by rw [HST.out]; rfl)
            go_wp2_with ((with_reducible refine gate_dst (N := 39) rfl ?_); refine Kd.R_lit (Kd.int .i64) w.heap.size 3 (w0 := w) ?hg (N := 39) ?hd (xs := []) (inner := []) (ok := fun _ => True) (okp := fun _ => True) ?hr ?hp (fun _ hk => hk) trivial (by repeat first | (with_reducible first | exact HB.out | apply ba_ | apply bn_ | apply bd_) | exact HB.out) (below_size (by repeat first | (with_reducible first | exact HB.out | apply ba_ | apply bn_ | apply bd_) | exact HB.out)) (by simp) ?_; (case hd => rfl); (case hg => rfl); (case hr => first | (go_simp; done) | (go_simp; rfl)); (case hp => exact (Reps.none _ _)); intro v1 w1 ho hb hgr hnw)
            go_ret2
            exact ⟨_, by rw [HFZ.out]; rfl, by rw [HFZ.out]; exact (by (with_reducible repeat first | apply ra_ | apply rn_ | apply rd_); exact ho), (by repeat first | (with_reducible first | exact hb | apply ba_ | apply bn_ | apply bd_) | exact hb)⟩
          | true =>
            have HFS := am_ (show histL i t m r (xs.drop (k + 1)) (h + n) (out ++ [n]) = FIN from by rw [HST.out]; rfl)
            obtain ⟨h0, h1⟩ := hok rfl
            have hn1 := hnb.1
            have hn2 := hnb.2
            clear hok
            go_wp2_with (((with_reducible refine gate_builtin (b := .append) (xs := #[.tmp 43, .tmp 45]) rfl ?_); at_builtin; refine Kd.R_append (Kd.int .i64) (w0 := w) w.heap.size rfl (.tmp 43) (.tmp 45) 39 3 (.int .i64 0) 8 rfl Try.underlying39 infoI rfl (by decide) (by omega) u6 out (n : Int) [.int .i64 n] (fun _ => True) (fun _ => False) rfl rfl ?aP (fun _ hk => hk.elim) ?aF ?aO ?aB ?aS ?aL ?_; (case aP => exact rfl); (case aB => exact (by repeat first | (with_reducible first | exact HB.out | apply ba_ | apply bn_ | apply bd_) | exact HB.out)); (case aF => exact (fun _ _ => trivial)); (case aO => exact (by (with_reducible repeat first | apply ra_ | apply rn_ | apply rd_); exact HOUT.out)); (case aS => exact (below_size (by repeat first | (with_reducible first | exact HB.out | apply ba_ | apply bn_ | apply bd_) | exact HB.out))); (case aL => omega); intro v1 w1 ho hb hg hat); have n_ := am_ (blk_grown BKg1.out hg (own_ne HOUT.out BKg1.out (by decide))); clear BKg1; have BKg1 := n_; clear n_)
            go_roundw
            case rel => exact ⟨k + 1, h + n, out ++ [n], rfl, by go_num, ⟨by omega⟩, ⟨by omega⟩, ⟨by rw [List.length_append, List.length_singleton]; have := HOL.out; omega⟩, HFS, ⟨(by (with_reducible repeat first | apply ra_ | apply rn_ | apply rd_); exact ho)⟩, ⟨(by repeat (with_reducible first | exact BKg1.out | refine kn_ ?_ _ | refine kd_ ?_ | refine ka_ ?_ _))⟩, ⟨(by repeat first | (with_reducible first | exact hb | apply ba_ | apply bn_ | apply bd_) | exact hb)⟩⟩
            case measure => simp [intOf]; omega
        · have ci : decide (k < xs.length) = false := decide_eq_false hil
          have hfe := histL_end (i := i) (t := t) (m := m) (r := r) hil h out
          rw [HF.out] at hfe
          have HFE := am_ hfe
          clear hfe
          go_wp2
          go_ret2
          exact ⟨_, by rw [HFE.out]; rfl, by rw [HFE.out]; exact (by (with_reducible repeat first | apply ra_ | apply rn_ | apply rd_); exact HOUT.out), (by repeat first | (with_reducible first | exact HB.out | apply ba_ | apply bn_ | apply bd_) | exact HB.out)⟩
    · rw [decide_eq_false ct] at g2_
      have G2 := am_ g2_
      clear g2_
      have hfin : histA xs i t m r = ([], false) := by unfold histA; rw [if_neg (fun v => ct v.2)]
      rw [hfin]
      clear hfin ca ct
      go_enter Try.func39, Try.ntmps39
      go_wp2_with (first
        | (((with_reducible refine gate_dst (N := 3) rfl ?_); refine box_event ?hg (N := 3) ?hd (cs := #[.int .i64 i, .int .i64 t, .int .i64 m, .int .i64 r]) (t := 26) ?hr ?_; (case hd => rfl); (case hg => rfl); (case hr => first | (go_simp; done) | (go_simp; rfl))); intro g1 hg w_g1 hbox hb; have n_ := am_ (below_step (by repeat first | (with_reducible first | exact HB.out | apply ba_ | apply bn_ | apply bd_) | exact HB.out) hb); have BKg1 := am_ hbox; have GEg1 := am_ (show w.heap.size ≤ g1 from by rw [hg]; exact below_size (by repeat first | (with_reducible first | exact HB.out | apply ba_ | apply bn_ | apply bd_) | exact HB.out)); clear HB ; have HB := n_; clear n_ hb hbox hg)
        | (((with_reducible refine gate_dst (N := 11) rfl ?_); refine Kd.R_lit (Kd.int .i64) w.heap.size 3 (w0 := w) ?hg (N := 11) ?hd (xs := []) (inner := []) (ok := fun _ => True) (okp := fun _ => True) ?hr ?hp (fun _ hk => hk) trivial (by repeat first | (with_reducible first | exact HB.out | apply ba_ | apply bn_ | apply bd_) | exact HB.out) (below_size (by repeat first | (with_reducible first | exact HB.out | apply ba_ | apply bn_ | apply bd_) | exact HB.out)) (by simp) ?_; (case hd => rfl); (case hg => rfl); (case hr => first | (go_simp; done) | (go_simp; rfl)); (case hp => exact (Reps.none _ _)); intro v1 w1 ho hb hgr hnw); have HOUT := am_ ho; have n_ := am_ (blk_grown BKg1.out hgr (by simp)); clear BKg1 HB; have BKg1 := n_; have HB := am_ hb; clear n_ ho hb hgr hnw))
      refine (spec_l2Amounts.calls ka A0 c0 xs true _ (by repeat first | exact (Kd.C_below HR0.out HB.out) | with_reducible refine ca_ ?_ _ | with_reducible refine cn_ ?_ _ | with_reducible refine cd_ ?_) HC0.out G1.out).mono ?_
      rintro e2 w1 ⟨rfl, hb0⟩
      have hb := db_ hb0
      clear hb0
      replace HOUT := am_ (Kd.R_below (by (with_reducible repeat first | apply ra_ | apply rn_ | apply rd_); exact HOUT.out) hb); replace BKg1 := am_ (blk_below (blk_below BKg1.out (by repeat first | exact Below.refl _ _ | apply ba_ | apply bn_ | apply bd_)) hb); replace HB := am_ (below_step (by repeat first | (with_reducible first | exact HB.out | apply ba_ | apply bn_ | apply bd_) | exact HB.out) hb); clear hb
      have yg1_0 : w1.cell? ⟨g1, 0, none⟩ = some (.int .i64 i) := (blk_cell BKg1.out 0).trans rfl; have fg1_0 := blk_frozen BKg1.out 0; have yg1_1 : w1.cell? ⟨g1, 1, none⟩ = some (.int .i64 t) := (blk_cell BKg1.out 1).trans rfl; have fg1_1 := blk_frozen BKg1.out 1; have yg1_2 : w1.cell? ⟨g1, 2, none⟩ = some (.int .i64 m) := (blk_cell BKg1.out 2).trans rfl; have fg1_2 := blk_frozen BKg1.out 2; have yg1_3 : w1.cell? ⟨g1, 3, none⟩ = some (.int .i64 r) := (blk_cell BKg1.out 3).trans rfl; have fg1_3 := blk_frozen BKg1.out 3
      go_wp2_with fail
      clear yg1_0 fg1_0 yg1_1 fg1_1 yg1_2 fg1_2 yg1_3 fg1_3
      refine (spec_l17Terms.calls i t m r false _ G2.out).mono ?_
      rintro e2 w2 ⟨rfl, hb⟩
      replace HOUT := am_ (Kd.R_below (by (with_reducible repeat first | apply ra_ | apply rn_ | apply rd_); exact HOUT.out) hb); replace BKg1 := am_ (blk_below (blk_below BKg1.out (by repeat first | exact Below.refl _ _ | apply ba_ | apply bn_ | apply bd_)) hb); replace HB := am_ (below_step (by repeat first | (with_reducible first | exact HB.out | apply ba_ | apply bn_ | apply bd_) | exact HB.out) hb); clear hb
      go_wp2
      go_ret2
      exact ⟨_, rfl, (by (with_reducible repeat first | apply ra_ | apply rn_ | apply rd_); exact HOUT.out), (by repeat first | (with_reducible first | exact HB.out | apply ba_ | apply bn_ | apply bd_ | refine below_set ?_ GEg1.out) | exact HB.out)⟩
  · rw [decide_eq_false ca] at g1_
    have G1 := am_ g1_
    clear g1_ g2_
    have hfin : histA xs i t m r = ([], false) := by unfold histA; rw [if_neg (fun v => ca v.1)]
    rw [hfin]
    clear hfin ca
    go_enter Try.func39, Try.ntmps39
    go_wp2_with (first
      | (((with_reducible refine gate_dst (N := 3) rfl ?_); refine box_event ?hg (N := 3) ?hd (cs := #[.int .i64 i, .int .i64 t, .int .i64 m, .int .i64 r]) (t := 26) ?hr ?_; (case hd => rfl); (case hg => rfl); (case hr => first | (go_simp; done) | (go_simp; rfl))); intro g1 hg w_g1 hbox hb; have n_ := am_ (below_step (by repeat first | (with_reducible first | exact HB.out | apply ba_ | apply bn_ | apply bd_) | exact HB.out) hb); have BKg1 := am_ hbox; have GEg1 := am_ (show w.heap.size ≤ g1 from by rw [hg]; exact below_size (by repeat first | (with_reducible first | exact HB.out | apply ba_ | apply bn_ | apply bd_) | exact HB.out)); clear HB ; have HB := n_; clear n_ hb hbox hg)
      | (((with_reducible refine gate_dst (N := 11) rfl ?_); refine Kd.R_lit (Kd.int .i64) w.heap.size 3 (w0 := w) ?hg (N := 11) ?hd (xs := []) (inner := []) (ok := fun _ => True) (okp := fun _ => True) ?hr ?hp (fun _ hk => hk) trivial (by repeat first | (with_reducible first | exact HB.out | apply ba_ | apply bn_ | apply bd_) | exact HB.out) (below_size (by repeat first | (with_reducible first | exact HB.out | apply ba_ | apply bn_ | apply bd_) | exact HB.out)) (by simp) ?_; (case hd => rfl); (case hg => rfl); (case hr => first | (go_simp; done) | (go_simp; rfl)); (case hp => exact (Reps.none _ _)); intro v1 w1 ho hb hgr hnw); have HOUT := am_ ho; have n_ := am_ (blk_grown BKg1.out hgr (by simp)); clear BKg1 HB; have BKg1 := n_; have HB := am_ hb; clear n_ ho hb hgr hnw))
    refine (spec_l2Amounts.calls ka A0 c0 xs false _ (by repeat first | exact (Kd.C_below HR0.out HB.out) | with_reducible refine ca_ ?_ _ | with_reducible refine cn_ ?_ _ | with_reducible refine cd_ ?_) HC0.out G1.out).mono ?_
    rintro e2 w1 ⟨rfl, hb0⟩
    have hb := db_ hb0
    clear hb0
    replace HOUT := am_ (Kd.R_below (by (with_reducible repeat first | apply ra_ | apply rn_ | apply rd_); exact HOUT.out) hb); replace BKg1 := am_ (blk_below (blk_below BKg1.out (by repeat first | exact Below.refl _ _ | apply ba_ | apply bn_ | apply bd_)) hb); replace HB := am_ (below_step (by repeat first | (with_reducible first | exact HB.out | apply ba_ | apply bn_ | apply bd_) | exact HB.out) hb); clear hb
    go_wp2
    go_ret2
    exact ⟨_, rfl, (by (with_reducible repeat first | apply ra_ | apply rn_ | apply rd_); exact HOUT.out), (by repeat first | (with_reducible first | exact HB.out | apply ba_ | apply bn_ | apply bd_ | refine below_set ?_ GEg1.out) | exact HB.out)⟩
set_option maxHeartbeats 8000000 in
set_option maxRecDepth 100000 in
theorem callI_c (e h i t m r : Int) (w : World) :
    Calls Try.prog 23 #[.int .i64 e, .int .i64 h, .agg #[.int .i64 i, .int .i64 t, .int .i64 m, .int .i64 r]] w fun e2 w' => e2 = .returned (.tuple #[.int .i64 (callA e h i t m r).1, .bool (callA e h i t m r).2]) ∧ Below w.heap.size w w' := by
  have HB := am_ (Below.refl w.heap.size w)
  obtain ⟨kq, hq⟩ := roundsOf (implRequired_ev e i t m r)
  have hin := within_eq h 0 1000000000
  by_cases c : reqOk e i t m r
  · have hbr := max0_bd (e + i - t)
    have hok := c.2.1
    obtain ⟨⟨i0, i1⟩, ⟨t0, t1⟩, ⟨m0, m1⟩, ⟨r0, r1⟩⟩ := hok
    have hc2 := c.2.2
    rw [reqA_yes c] at hq
    obtain ⟨RQ, hRQ⟩ : ∃ q, q = max0 (e + i - t) := ⟨_, rfl⟩
    have hA : callA e h i t m r = if 0 ≤ h ∧ h ≤ 1000000000 then callEnd (callN (RQ - h) r) m else (0, false) := by
      unfold callA
      by_cases ch : 0 ≤ h ∧ h ≤ 1000000000
      · rw [if_pos ⟨c, ch⟩, if_pos ch, hRQ]
      · rw [if_neg (fun g => ch g.2), if_neg ch]
    rw [← hRQ] at hq hbr
    have rq0 : 0 ≤ RQ := hbr.1
    have rq1 : RQ ≤ 1000000000 := hbr.2.1 hc2
    rw [hA]
    have HQ := am_ hq
    clear hq hbr hc2 hA hRQ c
    by_cases ch : 0 ≤ h ∧ h ≤ 1000000000
    · rw [if_pos ch]
      rw [decide_eq_true ch] at hin
      have HIN := am_ hin
      have h0 := ch.1
      have h1 := ch.2
      clear hin ch
      obtain ⟨d, hd_⟩ : ∃ d, RQ = d + h := ⟨RQ - h, by omega⟩
      subst hd_
      rw [show d + h - h = d from by omega]
      have hwd : IntKind.i64.wrap (d + h - h) = d := by rw [show d + h - h = d from by omega]; exact IntWalk.i64_in _ (by omega)
      obtain ⟨q1, n1, q2, n2, ⟨a1, a2, a3, a4, a5, a6⟩, hneg, hc1, hc2, hc3⟩ := call_parts d m r (by omega) ⟨r0, r1⟩
      have hrz : ¬ (r = 0) := by omega
      have hrz2 : ((r : Int) == 0) = false := by rw [beq_eq_false_iff_ne]; omega
      have hw1 : IntKind.i64.wrap (q1 * r) = n1 := by rw [a2]; exact IntWalk.i64_in _ (by omega)
      have hw1' : IntKind.i64.wrap q1 = q1 := IntWalk.i64_in _ (by omega)
      by_cases q : 0 < d
      · have cd : decide (0 < d) = true := decide_eq_true q
        obtain ⟨hN, hN0⟩ := hc2 (by omega)
        obtain ⟨N, hNe⟩ : ∃ N, N = n1 := ⟨_, rfl⟩
        rw [hN, ← hNe]
        have hNb : 0 ≤ N ∧ N ≤ 4000000000 := by omega
        subst hNe
        have hE : callEnd N m = if N < m then (0, true) else if -1000000000 ≤ N ∧ N ≤ 1000000000 then (N, true) else (0, false) := by unfold callEnd; rw [show absI N = N from if_neg (by omega)]
        rw [hE]
        clear hN hE
        clear hneg hc1 hc2 hc3 a2 a3 a4 q
        by_cases q3 : N < m
        · rw [if_pos q3]
          have cm : decide (N < m) = true := decide_eq_true q3
          clear q3
          have ha := isAmount_eq 0
          rw [decide_eq_true (by omega)] at ha
          have HA := am_ ha
          clear ha
          go_enter Try.func23, Try.ntmps23
          go_wp2_with ((((with_reducible refine gate_dst (N := 5) rfl ?_); refine box_event ?hg (N := 5) ?hd (cs := #[.int .i64 i, .int .i64 t, .int .i64 m, .int .i64 r]) (t := 26) ?hr ?_; (case hd => rfl); (case hg => rfl); (case hr => first | (go_simp; done) | (go_simp; rfl))); intro g1 hg w_g1 hbox hb; have n_ := am_ (below_step (by repeat first | (with_reducible first | exact HB.out | apply ba_ | apply bn_ | apply bd_) | exact HB.out) hb); have BKg1 := am_ hbox; have GEg1 := am_ (show w.heap.size ≤ g1 from by rw [hg]; exact below_size (by repeat first | (with_reducible first | exact HB.out | apply ba_ | apply bn_ | apply bd_) | exact HB.out)); clear HB ; have HB := n_; clear n_ hb hbox hg); have yg1_0 : w_g1.cell? ⟨g1, 0, none⟩ = some (.int .i64 i) := (blk_cell BKg1.out 0).trans rfl; have fg1_0 := blk_frozen BKg1.out 0; have yg1_1 : w_g1.cell? ⟨g1, 1, none⟩ = some (.int .i64 t) := (blk_cell BKg1.out 1).trans rfl; have fg1_1 := blk_frozen BKg1.out 1; have yg1_2 : w_g1.cell? ⟨g1, 2, none⟩ = some (.int .i64 m) := (blk_cell BKg1.out 2).trans rfl; have fg1_2 := blk_frozen BKg1.out 2; have yg1_3 : w_g1.cell? ⟨g1, 3, none⟩ = some (.int .i64 r) := (blk_cell BKg1.out 3).trans rfl; have fg1_3 := blk_frozen BKg1.out 3)
          clear yg1_0 fg1_0 yg1_1 fg1_1 yg1_2 fg1_2 yg1_3 fg1_3
          refine (impl_RequiredAmount.calls kq e i t m r _ _ _ HQ.out).mono ?_
          rintro e2 w1 ⟨rfl, hb⟩
          replace BKg1 := am_ (blk_below (blk_below BKg1.out (by repeat first | exact Below.refl _ _ | apply ba_ | apply bn_ | apply bd_)) hb); replace HB := am_ (below_step (by repeat first | (with_reducible first | exact HB.out | apply ba_ | apply bn_ | apply bd_) | exact HB.out) hb); clear hb
          have yg1_0 : w1.cell? ⟨g1, 0, none⟩ = some (.int .i64 i) := (blk_cell BKg1.out 0).trans rfl; have fg1_0 := blk_frozen BKg1.out 0; have yg1_1 : w1.cell? ⟨g1, 1, none⟩ = some (.int .i64 t) := (blk_cell BKg1.out 1).trans rfl; have fg1_1 := blk_frozen BKg1.out 1; have yg1_2 : w1.cell? ⟨g1, 2, none⟩ = some (.int .i64 m) := (blk_cell BKg1.out 2).trans rfl; have fg1_2 := blk_frozen BKg1.out 2; have yg1_3 : w1.cell? ⟨g1, 3, none⟩ = some (.int .i64 r) := (blk_cell BKg1.out 3).trans rfl; have fg1_3 := blk_frozen BKg1.out 3
          go_wp2_with fail
          clear yg1_0 fg1_0 yg1_1 fg1_1 yg1_2 fg1_2 yg1_3 fg1_3
          refine (impl_within.calls h 0 1000000000 true _ HIN.out).mono ?_
          rintro e2 w2 ⟨rfl, hb0⟩
          have hb := db_ hb0
          clear hb0
          replace BKg1 := am_ (blk_below (blk_below BKg1.out (by repeat first | exact Below.refl _ _ | apply ba_ | apply bn_ | apply bd_)) hb); replace HB := am_ (below_step (by repeat first | (with_reducible first | exact HB.out | apply ba_ | apply bn_ | apply bd_) | exact HB.out) hb); clear hb
          have yg1_0 : w2.cell? ⟨g1, 0, none⟩ = some (.int .i64 i) := (blk_cell BKg1.out 0).trans rfl; have fg1_0 := blk_frozen BKg1.out 0; have yg1_1 : w2.cell? ⟨g1, 1, none⟩ = some (.int .i64 t) := (blk_cell BKg1.out 1).trans rfl; have fg1_1 := blk_frozen BKg1.out 1; have yg1_2 : w2.cell? ⟨g1, 2, none⟩ = some (.int .i64 m) := (blk_cell BKg1.out 2).trans rfl; have fg1_2 := blk_frozen BKg1.out 2; have yg1_3 : w2.cell? ⟨g1, 3, none⟩ = some (.int .i64 r) := (blk_cell BKg1.out 3).trans rfl; have fg1_3 := blk_frozen BKg1.out 3
          go_wp2_with fail
          go_quiet (fail)
          go_wp2_with fail
          refine (impl_isAmount.calls 0 true _ HA.out).mono ?_
          rintro e2 w4 ⟨rfl, ⟨nq2, rfl⟩⟩
          go_wp2
          go_ret2
          exact ⟨by first | rfl | (congr 4; omega), (by repeat first | (with_reducible first | exact HB.out | apply ba_ | apply bn_ | apply bd_ | refine below_set ?_ GEg1.out) | exact HB.out)⟩
        · rw [if_neg q3]
          have cm : decide (N < m) = false := decide_eq_false q3
          clear q3
          have ha := isAmount_eq N
          by_cases q4 : -1000000000 ≤ N ∧ N ≤ 1000000000
          · rw [if_pos q4]
            rw [decide_eq_true q4] at ha
            have HA := am_ ha
            clear ha q4
            go_enter Try.func23, Try.ntmps23
            go_wp2_with ((((with_reducible refine gate_dst (N := 5) rfl ?_); refine box_event ?hg (N := 5) ?hd (cs := #[.int .i64 i, .int .i64 t, .int .i64 m, .int .i64 r]) (t := 26) ?hr ?_; (case hd => rfl); (case hg => rfl); (case hr => first | (go_simp; done) | (go_simp; rfl))); intro g1 hg w_g1 hbox hb; have n_ := am_ (below_step (by repeat first | (with_reducible first | exact HB.out | apply ba_ | apply bn_ | apply bd_) | exact HB.out) hb); have BKg1 := am_ hbox; have GEg1 := am_ (show w.heap.size ≤ g1 from by rw [hg]; exact below_size (by repeat first | (with_reducible first | exact HB.out | apply ba_ | apply bn_ | apply bd_) | exact HB.out)); clear HB ; have HB := n_; clear n_ hb hbox hg); have yg1_0 : w_g1.cell? ⟨g1, 0, none⟩ = some (.int .i64 i) := (blk_cell BKg1.out 0).trans rfl; have fg1_0 := blk_frozen BKg1.out 0; have yg1_1 : w_g1.cell? ⟨g1, 1, none⟩ = some (.int .i64 t) := (blk_cell BKg1.out 1).trans rfl; have fg1_1 := blk_frozen BKg1.out 1; have yg1_2 : w_g1.cell? ⟨g1, 2, none⟩ = some (.int .i64 m) := (blk_cell BKg1.out 2).trans rfl; have fg1_2 := blk_frozen BKg1.out 2; have yg1_3 : w_g1.cell? ⟨g1, 3, none⟩ = some (.int .i64 r) := (blk_cell BKg1.out 3).trans rfl; have fg1_3 := blk_frozen BKg1.out 3)
            clear yg1_0 fg1_0 yg1_1 fg1_1 yg1_2 fg1_2 yg1_3 fg1_3
            refine (impl_RequiredAmount.calls kq e i t m r _ _ _ HQ.out).mono ?_
            rintro e2 w1 ⟨rfl, hb⟩
            replace BKg1 := am_ (blk_below (blk_below BKg1.out (by repeat first | exact Below.refl _ _ | apply ba_ | apply bn_ | apply bd_)) hb); replace HB := am_ (below_step (by repeat first | (with_reducible first | exact HB.out | apply ba_ | apply bn_ | apply bd_) | exact HB.out) hb); clear hb
            have yg1_0 : w1.cell? ⟨g1, 0, none⟩ = some (.int .i64 i) := (blk_cell BKg1.out 0).trans rfl; have fg1_0 := blk_frozen BKg1.out 0; have yg1_1 : w1.cell? ⟨g1, 1, none⟩ = some (.int .i64 t) := (blk_cell BKg1.out 1).trans rfl; have fg1_1 := blk_frozen BKg1.out 1; have yg1_2 : w1.cell? ⟨g1, 2, none⟩ = some (.int .i64 m) := (blk_cell BKg1.out 2).trans rfl; have fg1_2 := blk_frozen BKg1.out 2; have yg1_3 : w1.cell? ⟨g1, 3, none⟩ = some (.int .i64 r) := (blk_cell BKg1.out 3).trans rfl; have fg1_3 := blk_frozen BKg1.out 3
            go_wp2_with fail
            clear yg1_0 fg1_0 yg1_1 fg1_1 yg1_2 fg1_2 yg1_3 fg1_3
            refine (impl_within.calls h 0 1000000000 true _ HIN.out).mono ?_
            rintro e2 w2 ⟨rfl, hb0⟩
            have hb := db_ hb0
            clear hb0
            replace BKg1 := am_ (blk_below (blk_below BKg1.out (by repeat first | exact Below.refl _ _ | apply ba_ | apply bn_ | apply bd_)) hb); replace HB := am_ (below_step (by repeat first | (with_reducible first | exact HB.out | apply ba_ | apply bn_ | apply bd_) | exact HB.out) hb); clear hb
            have yg1_0 : w2.cell? ⟨g1, 0, none⟩ = some (.int .i64 i) := (blk_cell BKg1.out 0).trans rfl; have fg1_0 := blk_frozen BKg1.out 0; have yg1_1 : w2.cell? ⟨g1, 1, none⟩ = some (.int .i64 t) := (blk_cell BKg1.out 1).trans rfl; have fg1_1 := blk_frozen BKg1.out 1; have yg1_2 : w2.cell? ⟨g1, 2, none⟩ = some (.int .i64 m) := (blk_cell BKg1.out 2).trans rfl; have fg1_2 := blk_frozen BKg1.out 2; have yg1_3 : w2.cell? ⟨g1, 3, none⟩ = some (.int .i64 r) := (blk_cell BKg1.out 3).trans rfl; have fg1_3 := blk_frozen BKg1.out 3
            go_wp2_with fail
            go_quiet (fail)
            go_wp2_with fail
            refine (impl_isAmount.calls N true _ HA.out).mono ?_
            rintro e2 w4 ⟨rfl, ⟨nq2, rfl⟩⟩
            go_wp2
            go_ret2
            exact ⟨by first | rfl | (congr 4; omega), (by repeat first | (with_reducible first | exact HB.out | apply ba_ | apply bn_ | apply bd_ | refine below_set ?_ GEg1.out) | exact HB.out)⟩
          · rw [if_neg q4]
            rw [decide_eq_false q4] at ha
            have HA := am_ ha
            clear ha q4
            go_enter Try.func23, Try.ntmps23
            go_wp2_with ((((with_reducible refine gate_dst (N := 5) rfl ?_); refine box_event ?hg (N := 5) ?hd (cs := #[.int .i64 i, .int .i64 t, .int .i64 m, .int .i64 r]) (t := 26) ?hr ?_; (case hd => rfl); (case hg => rfl); (case hr => first | (go_simp; done) | (go_simp; rfl))); intro g1 hg w_g1 hbox hb; have n_ := am_ (below_step (by repeat first | (with_reducible first | exact HB.out | apply ba_ | apply bn_ | apply bd_) | exact HB.out) hb); have BKg1 := am_ hbox; have GEg1 := am_ (show w.heap.size ≤ g1 from by rw [hg]; exact below_size (by repeat first | (with_reducible first | exact HB.out | apply ba_ | apply bn_ | apply bd_) | exact HB.out)); clear HB ; have HB := n_; clear n_ hb hbox hg); have yg1_0 : w_g1.cell? ⟨g1, 0, none⟩ = some (.int .i64 i) := (blk_cell BKg1.out 0).trans rfl; have fg1_0 := blk_frozen BKg1.out 0; have yg1_1 : w_g1.cell? ⟨g1, 1, none⟩ = some (.int .i64 t) := (blk_cell BKg1.out 1).trans rfl; have fg1_1 := blk_frozen BKg1.out 1; have yg1_2 : w_g1.cell? ⟨g1, 2, none⟩ = some (.int .i64 m) := (blk_cell BKg1.out 2).trans rfl; have fg1_2 := blk_frozen BKg1.out 2; have yg1_3 : w_g1.cell? ⟨g1, 3, none⟩ = some (.int .i64 r) := (blk_cell BKg1.out 3).trans rfl; have fg1_3 := blk_frozen BKg1.out 3)
            clear yg1_0 fg1_0 yg1_1 fg1_1 yg1_2 fg1_2 yg1_3 fg1_3
            refine (impl_RequiredAmount.calls kq e i t m r _ _ _ HQ.out).mono ?_
            rintro e2 w1 ⟨rfl, hb⟩
            replace BKg1 := am_ (blk_below (blk_below BKg1.out (by repeat first | exact Below.refl _ _ | apply ba_ | apply bn_ | apply bd_)) hb); replace HB := am_ (below_step (by repeat first | (with_reducible first | exact HB.out | apply ba_ | apply bn_ | apply bd_) | exact HB.out) hb); clear hb
            have yg1_0 : w1.cell? ⟨g1, 0, none⟩ = some (.int .i64 i) := (blk_cell BKg1.out 0).trans rfl; have fg1_0 := blk_frozen BKg1.out 0; have yg1_1 : w1.cell? ⟨g1, 1, none⟩ = some (.int .i64 t) := (blk_cell BKg1.out 1).trans rfl; have fg1_1 := blk_frozen BKg1.out 1; have yg1_2 : w1.cell? ⟨g1, 2, none⟩ = some (.int .i64 m) := (blk_cell BKg1.out 2).trans rfl; have fg1_2 := blk_frozen BKg1.out 2; have yg1_3 : w1.cell? ⟨g1, 3, none⟩ = some (.int .i64 r) := (blk_cell BKg1.out 3).trans rfl; have fg1_3 := blk_frozen BKg1.out 3
            go_wp2_with fail
            clear yg1_0 fg1_0 yg1_1 fg1_1 yg1_2 fg1_2 yg1_3 fg1_3
            refine (impl_within.calls h 0 1000000000 true _ HIN.out).mono ?_
            rintro e2 w2 ⟨rfl, hb0⟩
            have hb := db_ hb0
            clear hb0
            replace BKg1 := am_ (blk_below (blk_below BKg1.out (by repeat first | exact Below.refl _ _ | apply ba_ | apply bn_ | apply bd_)) hb); replace HB := am_ (below_step (by repeat first | (with_reducible first | exact HB.out | apply ba_ | apply bn_ | apply bd_) | exact HB.out) hb); clear hb
            have yg1_0 : w2.cell? ⟨g1, 0, none⟩ = some (.int .i64 i) := (blk_cell BKg1.out 0).trans rfl; have fg1_0 := blk_frozen BKg1.out 0; have yg1_1 : w2.cell? ⟨g1, 1, none⟩ = some (.int .i64 t) := (blk_cell BKg1.out 1).trans rfl; have fg1_1 := blk_frozen BKg1.out 1; have yg1_2 : w2.cell? ⟨g1, 2, none⟩ = some (.int .i64 m) := (blk_cell BKg1.out 2).trans rfl; have fg1_2 := blk_frozen BKg1.out 2; have yg1_3 : w2.cell? ⟨g1, 3, none⟩ = some (.int .i64 r) := (blk_cell BKg1.out 3).trans rfl; have fg1_3 := blk_frozen BKg1.out 3
            go_wp2_with fail
            go_quiet (fail)
            go_wp2_with fail
            refine (impl_isAmount.calls N false _ HA.out).mono ?_
            rintro e2 w4 ⟨rfl, ⟨nq2, rfl⟩⟩
            go_wp2
            go_ret2
            exact ⟨by first | rfl | (congr 4; omega), (by repeat first | (with_reducible first | exact HB.out | apply ba_ | apply bn_ | apply bd_ | refine below_set ?_ GEg1.out) | exact HB.out)⟩
      · have cd : decide (0 < d) = false := decide_eq_false q
        obtain ⟨b1, b2, b3, b4, b5, b6⟩ := hneg (by omega)
        have hw2 : IntKind.i64.wrap (q2 * r) = n2 := by rw [b2]; exact IntWalk.i64_in _ (by omega)
        have hw2' : IntKind.i64.wrap q2 = q2 := IntWalk.i64_in _ (by omega)
        have hN : callN d r = -n2 := by
          rcases Int.lt_or_le d 0 with g | g
          · exact hc1 g
          · have := (hc2 g).1; have := hc3 (by omega); omega
        obtain ⟨N, hNe⟩ : ∃ N, N = n2 := ⟨_, rfl⟩
        rw [hN, ← hNe]
        have hNb : 0 ≤ N ∧ N ≤ 1000000000 := by omega
        subst hNe
        have hE : callEnd (-N) m = if N < m then (0, true) else if -1000000000 ≤ N ∧ N ≤ 1000000000 then (-N, true) else (0, false) := by
          have e1 : absI (-N) = N := by unfold absI; split <;> omega
          unfold callEnd
          rw [e1]
          · by_cases g2 : N < m
            · rw [if_pos g2, if_pos g2]
            · rw [if_neg g2, if_neg g2, if_pos (by omega), if_pos (by omega)]
        rw [hE]
        clear hN hE b2 b3 b4
        clear hneg hc1 hc2 hc3 a2 a3 a4 q
        by_cases q3 : N < m
        · rw [if_pos q3]
          have cm : decide (N < m) = true := decide_eq_true q3
          clear q3
          have ha := isAmount_eq 0
          rw [decide_eq_true (by omega)] at ha
          have HA := am_ ha
          clear ha
          go_enter Try.func23, Try.ntmps23
          go_wp2_with ((((with_reducible refine gate_dst (N := 5) rfl ?_); refine box_event ?hg (N := 5) ?hd (cs := #[.int .i64 i, .int .i64 t, .int .i64 m, .int .i64 r]) (t := 26) ?hr ?_; (case hd => rfl); (case hg => rfl); (case hr => first | (go_simp; done) | (go_simp; rfl))); intro g1 hg w_g1 hbox hb; have n_ := am_ (below_step (by repeat first | (with_reducible first | exact HB.out | apply ba_ | apply bn_ | apply bd_) | exact HB.out) hb); have BKg1 := am_ hbox; have GEg1 := am_ (show w.heap.size ≤ g1 from by rw [hg]; exact below_size (by repeat first | (with_reducible first | exact HB.out | apply ba_ | apply bn_ | apply bd_) | exact HB.out)); clear HB ; have HB := n_; clear n_ hb hbox hg); have yg1_0 : w_g1.cell? ⟨g1, 0, none⟩ = some (.int .i64 i) := (blk_cell BKg1.out 0).trans rfl; have fg1_0 := blk_frozen BKg1.out 0; have yg1_1 : w_g1.cell? ⟨g1, 1, none⟩ = some (.int .i64 t) := (blk_cell BKg1.out 1).trans rfl; have fg1_1 := blk_frozen BKg1.out 1; have yg1_2 : w_g1.cell? ⟨g1, 2, none⟩ = some (.int .i64 m) := (blk_cell BKg1.out 2).trans rfl; have fg1_2 := blk_frozen BKg1.out 2; have yg1_3 : w_g1.cell? ⟨g1, 3, none⟩ = some (.int .i64 r) := (blk_cell BKg1.out 3).trans rfl; have fg1_3 := blk_frozen BKg1.out 3)
          clear yg1_0 fg1_0 yg1_1 fg1_1 yg1_2 fg1_2 yg1_3 fg1_3
          refine (impl_RequiredAmount.calls kq e i t m r _ _ _ HQ.out).mono ?_
          rintro e2 w1 ⟨rfl, hb⟩
          replace BKg1 := am_ (blk_below (blk_below BKg1.out (by repeat first | exact Below.refl _ _ | apply ba_ | apply bn_ | apply bd_)) hb); replace HB := am_ (below_step (by repeat first | (with_reducible first | exact HB.out | apply ba_ | apply bn_ | apply bd_) | exact HB.out) hb); clear hb
          have yg1_0 : w1.cell? ⟨g1, 0, none⟩ = some (.int .i64 i) := (blk_cell BKg1.out 0).trans rfl; have fg1_0 := blk_frozen BKg1.out 0; have yg1_1 : w1.cell? ⟨g1, 1, none⟩ = some (.int .i64 t) := (blk_cell BKg1.out 1).trans rfl; have fg1_1 := blk_frozen BKg1.out 1; have yg1_2 : w1.cell? ⟨g1, 2, none⟩ = some (.int .i64 m) := (blk_cell BKg1.out 2).trans rfl; have fg1_2 := blk_frozen BKg1.out 2; have yg1_3 : w1.cell? ⟨g1, 3, none⟩ = some (.int .i64 r) := (blk_cell BKg1.out 3).trans rfl; have fg1_3 := blk_frozen BKg1.out 3
          go_wp2_with fail
          clear yg1_0 fg1_0 yg1_1 fg1_1 yg1_2 fg1_2 yg1_3 fg1_3
          refine (impl_within.calls h 0 1000000000 true _ HIN.out).mono ?_
          rintro e2 w2 ⟨rfl, hb0⟩
          have hb := db_ hb0
          clear hb0
          replace BKg1 := am_ (blk_below (blk_below BKg1.out (by repeat first | exact Below.refl _ _ | apply ba_ | apply bn_ | apply bd_)) hb); replace HB := am_ (below_step (by repeat first | (with_reducible first | exact HB.out | apply ba_ | apply bn_ | apply bd_) | exact HB.out) hb); clear hb
          have yg1_0 : w2.cell? ⟨g1, 0, none⟩ = some (.int .i64 i) := (blk_cell BKg1.out 0).trans rfl; have fg1_0 := blk_frozen BKg1.out 0; have yg1_1 : w2.cell? ⟨g1, 1, none⟩ = some (.int .i64 t) := (blk_cell BKg1.out 1).trans rfl; have fg1_1 := blk_frozen BKg1.out 1; have yg1_2 : w2.cell? ⟨g1, 2, none⟩ = some (.int .i64 m) := (blk_cell BKg1.out 2).trans rfl; have fg1_2 := blk_frozen BKg1.out 2; have yg1_3 : w2.cell? ⟨g1, 3, none⟩ = some (.int .i64 r) := (blk_cell BKg1.out 3).trans rfl; have fg1_3 := blk_frozen BKg1.out 3
          go_wp2_with fail
          go_quiet (fail)
          go_wp2_with fail
          refine (impl_isAmount.calls 0 true _ HA.out).mono ?_
          rintro e2 w4 ⟨rfl, ⟨nq2, rfl⟩⟩
          go_wp2
          go_ret2
          exact ⟨by first | rfl | (congr 4; omega), (by repeat first | (with_reducible first | exact HB.out | apply ba_ | apply bn_ | apply bd_ | refine below_set ?_ GEg1.out) | exact HB.out)⟩
        · rw [if_neg q3]
          have cm : decide (N < m) = false := decide_eq_false q3
          clear q3
          have ha := isAmount_eq N
          by_cases q4 : -1000000000 ≤ N ∧ N ≤ 1000000000
          · rw [if_pos q4]
            rw [decide_eq_true q4] at ha
            have HA := am_ ha
            clear ha q4
            go_enter Try.func23, Try.ntmps23
            go_wp2_with ((((with_reducible refine gate_dst (N := 5) rfl ?_); refine box_event ?hg (N := 5) ?hd (cs := #[.int .i64 i, .int .i64 t, .int .i64 m, .int .i64 r]) (t := 26) ?hr ?_; (case hd => rfl); (case hg => rfl); (case hr => first | (go_simp; done) | (go_simp; rfl))); intro g1 hg w_g1 hbox hb; have n_ := am_ (below_step (by repeat first | (with_reducible first | exact HB.out | apply ba_ | apply bn_ | apply bd_) | exact HB.out) hb); have BKg1 := am_ hbox; have GEg1 := am_ (show w.heap.size ≤ g1 from by rw [hg]; exact below_size (by repeat first | (with_reducible first | exact HB.out | apply ba_ | apply bn_ | apply bd_) | exact HB.out)); clear HB ; have HB := n_; clear n_ hb hbox hg); have yg1_0 : w_g1.cell? ⟨g1, 0, none⟩ = some (.int .i64 i) := (blk_cell BKg1.out 0).trans rfl; have fg1_0 := blk_frozen BKg1.out 0; have yg1_1 : w_g1.cell? ⟨g1, 1, none⟩ = some (.int .i64 t) := (blk_cell BKg1.out 1).trans rfl; have fg1_1 := blk_frozen BKg1.out 1; have yg1_2 : w_g1.cell? ⟨g1, 2, none⟩ = some (.int .i64 m) := (blk_cell BKg1.out 2).trans rfl; have fg1_2 := blk_frozen BKg1.out 2; have yg1_3 : w_g1.cell? ⟨g1, 3, none⟩ = some (.int .i64 r) := (blk_cell BKg1.out 3).trans rfl; have fg1_3 := blk_frozen BKg1.out 3)
            clear yg1_0 fg1_0 yg1_1 fg1_1 yg1_2 fg1_2 yg1_3 fg1_3
            refine (impl_RequiredAmount.calls kq e i t m r _ _ _ HQ.out).mono ?_
            rintro e2 w1 ⟨rfl, hb⟩
            replace BKg1 := am_ (blk_below (blk_below BKg1.out (by repeat first | exact Below.refl _ _ | apply ba_ | apply bn_ | apply bd_)) hb); replace HB := am_ (below_step (by repeat first | (with_reducible first | exact HB.out | apply ba_ | apply bn_ | apply bd_) | exact HB.out) hb); clear hb
            have yg1_0 : w1.cell? ⟨g1, 0, none⟩ = some (.int .i64 i) := (blk_cell BKg1.out 0).trans rfl; have fg1_0 := blk_frozen BKg1.out 0; have yg1_1 : w1.cell? ⟨g1, 1, none⟩ = some (.int .i64 t) := (blk_cell BKg1.out 1).trans rfl; have fg1_1 := blk_frozen BKg1.out 1; have yg1_2 : w1.cell? ⟨g1, 2, none⟩ = some (.int .i64 m) := (blk_cell BKg1.out 2).trans rfl; have fg1_2 := blk_frozen BKg1.out 2; have yg1_3 : w1.cell? ⟨g1, 3, none⟩ = some (.int .i64 r) := (blk_cell BKg1.out 3).trans rfl; have fg1_3 := blk_frozen BKg1.out 3
            go_wp2_with fail
            clear yg1_0 fg1_0 yg1_1 fg1_1 yg1_2 fg1_2 yg1_3 fg1_3
            refine (impl_within.calls h 0 1000000000 true _ HIN.out).mono ?_
            rintro e2 w2 ⟨rfl, hb0⟩
            have hb := db_ hb0
            clear hb0
            replace BKg1 := am_ (blk_below (blk_below BKg1.out (by repeat first | exact Below.refl _ _ | apply ba_ | apply bn_ | apply bd_)) hb); replace HB := am_ (below_step (by repeat first | (with_reducible first | exact HB.out | apply ba_ | apply bn_ | apply bd_) | exact HB.out) hb); clear hb
            have yg1_0 : w2.cell? ⟨g1, 0, none⟩ = some (.int .i64 i) := (blk_cell BKg1.out 0).trans rfl; have fg1_0 := blk_frozen BKg1.out 0; have yg1_1 : w2.cell? ⟨g1, 1, none⟩ = some (.int .i64 t) := (blk_cell BKg1.out 1).trans rfl; have fg1_1 := blk_frozen BKg1.out 1; have yg1_2 : w2.cell? ⟨g1, 2, none⟩ = some (.int .i64 m) := (blk_cell BKg1.out 2).trans rfl; have fg1_2 := blk_frozen BKg1.out 2; have yg1_3 : w2.cell? ⟨g1, 3, none⟩ = some (.int .i64 r) := (blk_cell BKg1.out 3).trans rfl; have fg1_3 := blk_frozen BKg1.out 3
            go_wp2_with fail
            go_quiet (fail)
            go_wp2_with fail
            refine (impl_isAmount.calls N true _ HA.out).mono ?_
            rintro e2 w4 ⟨rfl, ⟨nq2, rfl⟩⟩
            go_wp2
            go_ret2
            exact ⟨by first | rfl | (congr 4; omega), (by repeat first | (with_reducible first | exact HB.out | apply ba_ | apply bn_ | apply bd_ | refine below_set ?_ GEg1.out) | exact HB.out)⟩
          · rw [if_neg q4]
            rw [decide_eq_false q4] at ha
            have HA := am_ ha
            clear ha q4
            go_enter Try.func23, Try.ntmps23
            go_wp2_with ((((with_reducible refine gate_dst (N := 5) rfl ?_); refine box_event ?hg (N := 5) ?hd (cs := #[.int .i64 i, .int .i64 t, .int .i64 m, .int .i64 r]) (t := 26) ?hr ?_; (case hd => rfl); (case hg => rfl); (case hr => first | (go_simp; done) | (go_simp; rfl))); intro g1 hg w_g1 hbox hb; have n_ := am_ (below_step (by repeat first | (with_reducible first | exact HB.out | apply ba_ | apply bn_ | apply bd_) | exact HB.out) hb); have BKg1 := am_ hbox; have GEg1 := am_ (show w.heap.size ≤ g1 from by rw [hg]; exact below_size (by repeat first | (with_reducible first | exact HB.out | apply ba_ | apply bn_ | apply bd_) | exact HB.out)); clear HB ; have HB := n_; clear n_ hb hbox hg); have yg1_0 : w_g1.cell? ⟨g1, 0, none⟩ = some (.int .i64 i) := (blk_cell BKg1.out 0).trans rfl; have fg1_0 := blk_frozen BKg1.out 0; have yg1_1 : w_g1.cell? ⟨g1, 1, none⟩ = some (.int .i64 t) := (blk_cell BKg1.out 1).trans rfl; have fg1_1 := blk_frozen BKg1.out 1; have yg1_2 : w_g1.cell? ⟨g1, 2, none⟩ = some (.int .i64 m) := (blk_cell BKg1.out 2).trans rfl; have fg1_2 := blk_frozen BKg1.out 2; have yg1_3 : w_g1.cell? ⟨g1, 3, none⟩ = some (.int .i64 r) := (blk_cell BKg1.out 3).trans rfl; have fg1_3 := blk_frozen BKg1.out 3)
            clear yg1_0 fg1_0 yg1_1 fg1_1 yg1_2 fg1_2 yg1_3 fg1_3
            refine (impl_RequiredAmount.calls kq e i t m r _ _ _ HQ.out).mono ?_
            rintro e2 w1 ⟨rfl, hb⟩
            replace BKg1 := am_ (blk_below (blk_below BKg1.out (by repeat first | exact Below.refl _ _ | apply ba_ | apply bn_ | apply bd_)) hb); replace HB := am_ (below_step (by repeat first | (with_reducible first | exact HB.out | apply ba_ | apply bn_ | apply bd_) | exact HB.out) hb); clear hb
            have yg1_0 : w1.cell? ⟨g1, 0, none⟩ = some (.int .i64 i) := (blk_cell BKg1.out 0).trans rfl; have fg1_0 := blk_frozen BKg1.out 0; have yg1_1 : w1.cell? ⟨g1, 1, none⟩ = some (.int .i64 t) := (blk_cell BKg1.out 1).trans rfl; have fg1_1 := blk_frozen BKg1.out 1; have yg1_2 : w1.cell? ⟨g1, 2, none⟩ = some (.int .i64 m) := (blk_cell BKg1.out 2).trans rfl; have fg1_2 := blk_frozen BKg1.out 2; have yg1_3 : w1.cell? ⟨g1, 3, none⟩ = some (.int .i64 r) := (blk_cell BKg1.out 3).trans rfl; have fg1_3 := blk_frozen BKg1.out 3
            go_wp2_with fail
            clear yg1_0 fg1_0 yg1_1 fg1_1 yg1_2 fg1_2 yg1_3 fg1_3
            refine (impl_within.calls h 0 1000000000 true _ HIN.out).mono ?_
            rintro e2 w2 ⟨rfl, hb0⟩
            have hb := db_ hb0
            clear hb0
            replace BKg1 := am_ (blk_below (blk_below BKg1.out (by repeat first | exact Below.refl _ _ | apply ba_ | apply bn_ | apply bd_)) hb); replace HB := am_ (below_step (by repeat first | (with_reducible first | exact HB.out | apply ba_ | apply bn_ | apply bd_) | exact HB.out) hb); clear hb
            have yg1_0 : w2.cell? ⟨g1, 0, none⟩ = some (.int .i64 i) := (blk_cell BKg1.out 0).trans rfl; have fg1_0 := blk_frozen BKg1.out 0; have yg1_1 : w2.cell? ⟨g1, 1, none⟩ = some (.int .i64 t) := (blk_cell BKg1.out 1).trans rfl; have fg1_1 := blk_frozen BKg1.out 1; have yg1_2 : w2.cell? ⟨g1, 2, none⟩ = some (.int .i64 m) := (blk_cell BKg1.out 2).trans rfl; have fg1_2 := blk_frozen BKg1.out 2; have yg1_3 : w2.cell? ⟨g1, 3, none⟩ = some (.int .i64 r) := (blk_cell BKg1.out 3).trans rfl; have fg1_3 := blk_frozen BKg1.out 3
            go_wp2_with fail
            go_quiet (fail)
            go_wp2_with fail
            refine (impl_isAmount.calls N false _ HA.out).mono ?_
            rintro e2 w4 ⟨rfl, ⟨nq2, rfl⟩⟩
            go_wp2
            go_ret2
            exact ⟨by first | rfl | (congr 4; omega), (by repeat first | (with_reducible first | exact HB.out | apply ba_ | apply bn_ | apply bd_ | refine below_set ?_ GEg1.out) | exact HB.out)⟩
    · rw [if_neg ch]
      rw [decide_eq_false ch] at hin
      have HIN := am_ hin
      clear hin ch
      go_enter Try.func23, Try.ntmps23
      go_wp2_with ((((with_reducible refine gate_dst (N := 5) rfl ?_); refine box_event ?hg (N := 5) ?hd (cs := #[.int .i64 i, .int .i64 t, .int .i64 m, .int .i64 r]) (t := 26) ?hr ?_; (case hd => rfl); (case hg => rfl); (case hr => first | (go_simp; done) | (go_simp; rfl))); intro g1 hg w_g1 hbox hb; have n_ := am_ (below_step (by repeat first | (with_reducible first | exact HB.out | apply ba_ | apply bn_ | apply bd_) | exact HB.out) hb); have BKg1 := am_ hbox; have GEg1 := am_ (show w.heap.size ≤ g1 from by rw [hg]; exact below_size (by repeat first | (with_reducible first | exact HB.out | apply ba_ | apply bn_ | apply bd_) | exact HB.out)); clear HB ; have HB := n_; clear n_ hb hbox hg); have yg1_0 : w_g1.cell? ⟨g1, 0, none⟩ = some (.int .i64 i) := (blk_cell BKg1.out 0).trans rfl; have fg1_0 := blk_frozen BKg1.out 0; have yg1_1 : w_g1.cell? ⟨g1, 1, none⟩ = some (.int .i64 t) := (blk_cell BKg1.out 1).trans rfl; have fg1_1 := blk_frozen BKg1.out 1; have yg1_2 : w_g1.cell? ⟨g1, 2, none⟩ = some (.int .i64 m) := (blk_cell BKg1.out 2).trans rfl; have fg1_2 := blk_frozen BKg1.out 2; have yg1_3 : w_g1.cell? ⟨g1, 3, none⟩ = some (.int .i64 r) := (blk_cell BKg1.out 3).trans rfl; have fg1_3 := blk_frozen BKg1.out 3)
      clear yg1_0 fg1_0 yg1_1 fg1_1 yg1_2 fg1_2 yg1_3 fg1_3
      refine (impl_RequiredAmount.calls kq e i t m r _ _ _ HQ.out).mono ?_
      rintro e2 w1 ⟨rfl, hb⟩
      replace BKg1 := am_ (blk_below (blk_below BKg1.out (by repeat first | exact Below.refl _ _ | apply ba_ | apply bn_ | apply bd_)) hb); replace HB := am_ (below_step (by repeat first | (with_reducible first | exact HB.out | apply ba_ | apply bn_ | apply bd_) | exact HB.out) hb); clear hb
      go_wp2_with fail
      refine (impl_within.calls h 0 1000000000 false _ HIN.out).mono ?_
      rintro e2 w2 ⟨rfl, hb0⟩
      have hb := db_ hb0
      clear hb0
      replace BKg1 := am_ (blk_below (blk_below BKg1.out (by repeat first | exact Below.refl _ _ | apply ba_ | apply bn_ | apply bd_)) hb); replace HB := am_ (below_step (by repeat first | (with_reducible first | exact HB.out | apply ba_ | apply bn_ | apply bd_) | exact HB.out) hb); clear hb
      go_wp2
      go_ret2
      exact ⟨rfl, (by repeat first | (with_reducible first | exact HB.out | apply ba_ | apply bn_ | apply bd_ | refine below_set ?_ GEg1.out) | exact HB.out)⟩
  · rw [reqA_no c] at hq
    have hA : callA e h i t m r = (0, false) := by unfold callA; rw [if_neg (fun g => c g.1)]
    rw [hA]
    have HQ := am_ hq
    clear hq hA c hin
    go_enter Try.func23, Try.ntmps23
    go_wp2_with ((((with_reducible refine gate_dst (N := 5) rfl ?_); refine box_event ?hg (N := 5) ?hd (cs := #[.int .i64 i, .int .i64 t, .int .i64 m, .int .i64 r]) (t := 26) ?hr ?_; (case hd => rfl); (case hg => rfl); (case hr => first | (go_simp; done) | (go_simp; rfl))); intro g1 hg w_g1 hbox hb; have n_ := am_ (below_step (by repeat first | (with_reducible first | exact HB.out | apply ba_ | apply bn_ | apply bd_) | exact HB.out) hb); have BKg1 := am_ hbox; have GEg1 := am_ (show w.heap.size ≤ g1 from by rw [hg]; exact below_size (by repeat first | (with_reducible first | exact HB.out | apply ba_ | apply bn_ | apply bd_) | exact HB.out)); clear HB ; have HB := n_; clear n_ hb hbox hg); have yg1_0 : w_g1.cell? ⟨g1, 0, none⟩ = some (.int .i64 i) := (blk_cell BKg1.out 0).trans rfl; have fg1_0 := blk_frozen BKg1.out 0; have yg1_1 : w_g1.cell? ⟨g1, 1, none⟩ = some (.int .i64 t) := (blk_cell BKg1.out 1).trans rfl; have fg1_1 := blk_frozen BKg1.out 1; have yg1_2 : w_g1.cell? ⟨g1, 2, none⟩ = some (.int .i64 m) := (blk_cell BKg1.out 2).trans rfl; have fg1_2 := blk_frozen BKg1.out 2; have yg1_3 : w_g1.cell? ⟨g1, 3, none⟩ = some (.int .i64 r) := (blk_cell BKg1.out 3).trans rfl; have fg1_3 := blk_frozen BKg1.out 3)
    clear yg1_0 fg1_0 yg1_1 fg1_1 yg1_2 fg1_2 yg1_3 fg1_3
    refine (impl_RequiredAmount.calls kq e i t m r _ _ _ HQ.out).mono ?_
    rintro e2 w1 ⟨rfl, hb⟩
    replace BKg1 := am_ (blk_below (blk_below BKg1.out (by repeat first | exact Below.refl _ _ | apply ba_ | apply bn_ | apply bd_)) hb); replace HB := am_ (below_step (by repeat first | (with_reducible first | exact HB.out | apply ba_ | apply bn_ | apply bd_) | exact HB.out) hb); clear hb
    go_wp2
    go_ret2
    exact ⟨rfl, (by repeat first | (with_reducible first | exact HB.out | apply ba_ | apply bn_ | apply bd_ | refine below_set ?_ GEg1.out) | exact HB.out)⟩
def Lcf_ren : Go.Shelf.Ren := ⟨fun | 6 => 74 | 8 => 61 | n => n, fun | 22 => 39 | 23 => 3 | 25 => 64 | n => n, fun | n => n⟩
theorem Lcf : Go.Proofs.SlLaysH.n8 Try.prog Lcf_ren := {
  mixed := by kernel_rfl,
  f6 := ⟨Try.f74.name, by decide, Try.func74.trans (congrArg some (by kernel_rfl))⟩,
  f8 := ⟨Try.f61.name, by decide, Try.func61.trans (congrArg some (by kernel_rfl))⟩,
  t0 := Try.underlying0,
  a0 := Try.isAgg0,
  z0 := Try.sizeOf0,
  v0 := Try.zeroValue0,
  t3 := Try.underlying3,
  a3 := Try.isAgg3,
  z3 := Try.sizeOf3,
  v3 := Try.zeroValue3,
  t4 := Try.underlying4,
  a4 := Try.isAgg4,
  z4 := Try.sizeOf4,
  v4 := Try.zeroValue4,
  t22 := Try.underlying39,
  a22 := Try.isAgg39,
  z22 := Try.sizeOf39,
  v22 := Try.zeroValue39,
  a23 := Try.isAgg3,
  z23 := Try.sizeOf3,
  t25 := Try.underlying64,
  a25 := Try.isAgg64,
  z25 := Try.sizeOf64,
  v25 := Try.zeroValue64 }

/-- slices.ContainsFunc over a row of whole numbers, a predicate given. -/
theorem containsFunc_c (g : Nat) (eg : ∀ args w, (callFunc g args).run Try.prog w = .ok (.enter g args) w) (lb : Array Value) (p : Int → Bool) (A : Option Addr) (c : Nat) (xs : List Int) (w : World) (hp : PredAt Try.prog g lb (Value.int .i64) p w) (hr : (Kd.int .i64).C w A xs.length xs) (ha : 0 < xs.length → ∃ b, A = some ⟨b, 0, none⟩) :
    Calls Try.prog 61 #[.slice A xs.length c, .func (.func g) #[] lb] w fun e w' => e = .returned (.bool (xs.any p)) ∧ ∃ q, w' = w.drewN q := by
  by_cases hp0 : 0 < xs.length
  · obtain ⟨b, rfl⟩ := ha hp0
    have h := AnyE.slices_ContainsFunc Lcf (Value.int .i64) p g lb eg b 0 xs.length c xs w hp (Nat.le_refl _) (Kd.C_max hr) (cellsOf hr)
    rw [List.take_length] at h
    exact h
  · obtain rfl : xs = [] := List.length_eq_zero_iff.mp (by omega)
    exact (AnyE.slices_ContainsFunc_empty Lcf A c _ w).mono fun e w' ⟨he, hw⟩ => ⟨he, 0, hw⟩
def amsF (xs : List Int) : Option Bool := some (decide (okAm xs))
theorem amsF_eq (xs : List Int) : amsF xs = some (decide (okAm xs)) := rfl
def amB (x : Int) : Bool := decide (-1000000000 ≤ x ∧ x ≤ 1000000000)
theorem amPred (w : World) : PredAt Try.prog 76 #[] (Value.int .i64) (fun x => !amB x) w := fun W x _ => by
  unfold FnGives
  have h : impl_isAmount.f x = some (amB x) := isAmount_eq x
  go_enter Try.func76, Try.ntmps76
  go_wp2_with (go_at_call 50; refine (impl_isAmount.calls x _ _ h).mono ?_; rintro e w' ⟨rfl, ⟨n, rfl⟩⟩)
  go_ret
  exact ⟨rfl, n, rfl⟩
set_option maxHeartbeats 8000000 in
set_option maxRecDepth 100000 in
theorem areAms_c (A0 : Option Addr) (c0 : Nat) (xs : List Int) (v : Bool) (hv : amsF xs = some v) (w : World) (hr0 : (Kd.int .i64).C w A0 xs.length xs) (ha0 : 0 < xs.length → ∃ b, A0 = some ⟨b, 0, none⟩) :
    Calls Try.prog 68 #[.slice A0 xs.length c0] w fun e w' => e = .returned (.bool v) ∧ Below w.heap.size w w' := by
  have EG := am_ (show ∀ args w, (callFunc 76 args).run Try.prog w = .ok (.enter 76 args) w from enters_of Try.func76 (by kernel_rfl) rfl)
  rw [amsF_eq, Option.some.injEq] at hv
  have HR0 := am_ hr0
  have HA0 := am_ ha0
  by_cases hl : xs.length ≤ 20
  · have hq : decide (okAm xs) = !(xs.any (fun x => !amB x)) := okAm_any hl
    rw [hv] at hq
    obtain ⟨q, hqe⟩ : ∃ q, q = xs.any (fun x => !amB x) := ⟨_, rfl⟩
    rw [← hqe] at hq
    have HQ := am_ hqe
    have HV := am_ hq
    have cl : decide ((xs.length : Int) ≤ 20) = true := decide_eq_true (by omega)
    clear hq hqe hv hr0 ha0
    go_enter Try.func68, Try.ntmps68
    go_wp2_with (go_at_call 61; refine (containsFunc_c 76 EG.out #[] (fun x => !amB x) _ _ xs _ (amPred _) HR0.out HA0.out).mono ?_; rw [← HQ.out]; rintro e w2 ⟨rfl, ⟨n, rfl⟩⟩)
    go_ret
    exact ⟨by rw [HV.out]; rfl, (by repeat first | (with_reducible first | exact (Below.refl _ _) | apply ba_ | apply bn_ | apply bd_) | exact (Below.refl _ _))⟩
  · obtain rfl : v = false := by rw [← hv]; exact decide_eq_false (fun g => hl g.1)
    have cl : decide ((xs.length : Int) ≤ 20) = false := decide_eq_false (by omega)
    clear hv hr0 ha0
    go_enter Try.func68, Try.ntmps68
    go_wp2
    go_ret
    exact ⟨rfl, (by repeat first | (with_reducible first | exact (Below.refl _ _) | apply ba_ | apply bn_ | apply bd_) | exact (Below.refl _ _))⟩
set_option maxHeartbeats 8000000 in
set_option maxRecDepth 100000 in
theorem histI_c (A0 : Option Addr) (c0 : Nat) (xs : List Int) (i t m r : Int) (w : World) (hr0 : (Kd.int .i64).C w A0 xs.length xs) (hc0 : xs.length ≤ c0) (ha0 : 0 < xs.length → ∃ b, A0 = some ⟨b, 0, none⟩) (hn : xs.length ≤ 1048576) :
    Calls Try.prog 40 #[.slice A0 xs.length c0, .agg #[.int .i64 i, .int .i64 t, .int .i64 m, .int .i64 r]] w fun e2 w' => ∃ v, e2 = .returned (.tuple #[v, .bool (histA xs i t m r).2]) ∧ (Kd.int .i64).R 3 w' w.heap.size (fun _ => True) v (histA xs i t m r).1 ∧ Below w.heap.size w w' := by
  have HB := am_ (Below.refl w.heap.size w)
  have HR0 := am_ hr0
  have HC0 := am_ hc0
  have HA0 := am_ ha0
  clear hr0 hc0 ha0
  have g1_ := amsF_eq xs
  have g2_ := isMargin_eq i t m r
  by_cases ca : okAm xs
  · rw [decide_eq_true ca] at g1_
    have G1 := am_ g1_
    clear g1_
    by_cases ct : okT i t m r
    · rw [decide_eq_true ct] at g2_
      have G2 := am_ g2_
      clear g2_
      have hfin : histA xs i t m r = histL i t m r xs 0 [] := by unfold histA; rw [if_pos ⟨ca, ct⟩]
      rw [hfin]
      obtain ⟨FIN, hFIN⟩ : ∃ F, F = histL i t m r xs 0 [] := ⟨_, rfl⟩
      rw [← hFIN]
      have HF := am_ (show histL i t m r (xs.drop 0) 0 [] = FIN from hFIN.symm)
      have hn20 : xs.length ≤ 20 := ca.1
      clear hfin hFIN ca ct
      go_enter Try.func40, Try.ntmps40
      go_wp2_with (((with_reducible refine gate_dst (N := 3) rfl ?_); refine box_event ?hg (N := 3) ?hd (cs := #[.int .i64 i, .int .i64 t, .int .i64 m, .int .i64 r]) (t := 26) ?hr ?_; (case hd => rfl); (case hg => rfl); (case hr => first | (go_simp; done) | (go_simp; rfl))); intro g1 hg w_g1 hbox hb; have n_ := am_ (below_step (by repeat first | (with_reducible first | exact HB.out | apply ba_ | apply bn_ | apply bd_) | exact HB.out) hb); have BKg1 := am_ hbox; have GEg1 := am_ (show w.heap.size ≤ g1 from by rw [hg]; exact below_size (by repeat first | (with_reducible first | exact HB.out | apply ba_ | apply bn_ | apply bd_) | exact HB.out)); clear HB ; have HB := n_; clear n_ hb hbox hg)
      refine (areAms_c A0 c0 xs true G1.out _ (by repeat first | exact (Kd.C_below HR0.out HB.out) | with_reducible refine ca_ ?_ _ | with_reducible refine cn_ ?_ _ | with_reducible refine cd_ ?_) HA0.out).mono ?_
      rintro e2 w1 ⟨rfl, hb⟩
      replace BKg1 := am_ (blk_below (blk_below BKg1.out (by repeat first | exact Below.refl _ _ | apply ba_ | apply bn_ | apply bd_)) hb); replace HB := am_ (below_step (by repeat first | (with_reducible first | exact HB.out | apply ba_ | apply bn_ | apply bd_) | exact HB.out) hb); clear hb
      have yg1_0 : w1.cell? ⟨g1, 0, none⟩ = some (.int .i64 i) := (blk_cell BKg1.out 0).trans rfl; have fg1_0 := blk_frozen BKg1.out 0; have yg1_1 : w1.cell? ⟨g1, 1, none⟩ = some (.int .i64 t) := (blk_cell BKg1.out 1).trans rfl; have fg1_1 := blk_frozen BKg1.out 1; have yg1_2 : w1.cell? ⟨g1, 2, none⟩ = some (.int .i64 m) := (blk_cell BKg1.out 2).trans rfl; have fg1_2 := blk_frozen BKg1.out 2; have yg1_3 : w1.cell? ⟨g1, 3, none⟩ = some (.int .i64 r) := (blk_cell BKg1.out 3).trans rfl; have fg1_3 := blk_frozen BKg1.out 3
      go_wp2_with fail
      clear yg1_0 fg1_0 yg1_1 fg1_1 yg1_2 fg1_2 yg1_3 fg1_3
      refine (impl_isMargin.calls i t m r true _ G2.out).mono ?_
      rintro e2 w2 ⟨rfl, hb⟩
      replace BKg1 := am_ (blk_below (blk_below BKg1.out (by repeat first | exact Below.refl _ _ | apply ba_ | apply bn_ | apply bd_)) hb); replace HB := am_ (below_step (by repeat first | (with_reducible first | exact HB.out | apply ba_ | apply bn_ | apply bd_) | exact HB.out) hb); clear hb
      go_wp2_with (((with_reducible refine gate_dst (N := 20) rfl ?_); refine Kd.R_lit (Kd.int .i64) w.heap.size 3 (w0 := w) ?hg (N := 20) ?hd (xs := []) (inner := []) (ok := fun _ => True) (okp := fun _ => True) ?hr ?hp (fun _ hk => hk) trivial (by repeat first | (with_reducible first | exact HB.out | apply ba_ | apply bn_ | apply bd_) | exact HB.out) (below_size (by repeat first | (with_reducible first | exact HB.out | apply ba_ | apply bn_ | apply bd_) | exact HB.out)) (by simp) ?_; (case hd => rfl); (case hg => rfl); (case hr => first | (go_simp; done) | (go_simp; rfl)); (case hp => exact (Reps.none _ _)); intro v1 w1 ho hb hgr hnw); have HOUT := am_ ho; have n_ := am_ (blk_grown BKg1.out hgr (by simp)); clear BKg1 HB; have BKg1 := n_; have HB := am_ hb; clear n_ ho hb hgr hnw)
      go_loopw [6, 7, 23] (fun vo vh vk wr => ∃ (k : Nat) (h : Int) (out : List Int), vh = .int .i64 h ∧ vk = .int .i64 k ∧ Aside0 (k ≤ xs.length) ∧ Aside0 (-2000000000 ≤ h ∧ h ≤ 2000000000) ∧ Aside0 (out.length ≤ k) ∧ Aside0 (histL i t m r (xs.drop k) h out = FIN) ∧ Aside0 ((Kd.int .i64).R 3 wr w.heap.size (fun _ => True) vo out) ∧ Aside0 (wr.heap[g1]? = some (.cells #[.int .i64 i, .int .i64 t, .int .i64 m, .int .i64 r] 26 (0, 0))) ∧ Aside0 (Below w.heap.size w wr)) (fun _ _ vk _ => xs.length - (intOf vk).toNat)
      case atStart => exact ⟨0, 0, [], rfl, rfl, ⟨Nat.zero_le _⟩, ⟨by decide⟩, ⟨Nat.le_refl _⟩, HF, ⟨(by (with_reducible repeat first | apply ra_ | apply rn_ | apply rd_); exact HOUT.out)⟩, ⟨(by repeat (with_reducible first | exact BKg1.out | refine kn_ ?_ _ | refine kd_ ?_ | refine ka_ ?_ _))⟩, ⟨(by repeat first | (with_reducible first | exact HB.out | apply ba_ | apply bn_ | apply bd_) | exact HB.out)⟩⟩
      case round =>
        clear HF HOUT BKg1 HB
        obtain ⟨k, h, out, rfl, rfl, HI, HH, HOL, HF, HOUT, BKg1, HB⟩ := hrel
        by_cases hil : k < xs.length
        · have ci : decide (k < xs.length) = true := decide_eq_true hil
          obtain ⟨b0, e0⟩ := HA0.out (by omega)
          subst e0
          have hcx := cellsOfD HR0.out k hil
          rw [Nat.zero_add] at hcx
          obtain ⟨x, hx⟩ : ∃ x, x = xs.getD k 0 := ⟨_, rfl⟩
          rw [← hx] at hcx
          have HCX := am_ hcx
          have HBX := am_ (World.block_lt_of_cell? w _ hcx)
          obtain ⟨AC, hAC⟩ : ∃ F, F = callA x h i t m r := ⟨_, rfl⟩
          have hnb := callA_bd x h i t m r
          have hok := fun q : (callA x h i t m r).2 = true => callA_ok q
          rw [← hAC] at hnb hok
          obtain ⟨n, so⟩ := AC
          simp only at hnb hok
          have HAC := am_ hAC.symm
          have hst := histL_at (i := i) (t := t) (m := m) (r := r) hil h out hx.symm hAC.symm
          rw [HF.out] at hst
          have HST := am_ hst
          have hh1 := HH.out.1
          have hh2 := HH.out.2
          have hol : out.length ≤ 20 := by have := HOL.out; omega
          clear hst hAC hx
          replace hcx := (HB.out.cell HBX.out).trans hcx
          have yg1_0 : wr.cell? ⟨g1, 0, none⟩ = some (.int .i64 i) := (blk_cell BKg1.out 0).trans rfl; have fg1_0 := blk_frozen BKg1.out 0; have yg1_1 : wr.cell? ⟨g1, 1, none⟩ = some (.int .i64 t) := (blk_cell BKg1.out 1).trans rfl; have fg1_1 := blk_frozen BKg1.out 1; have yg1_2 : wr.cell? ⟨g1, 2, none⟩ = some (.int .i64 m) := (blk_cell BKg1.out 2).trans rfl; have fg1_2 := blk_frozen BKg1.out 2; have yg1_3 : wr.cell? ⟨g1, 3, none⟩ = some (.int .i64 r) := (blk_cell BKg1.out 3).trans rfl; have fg1_3 := blk_frozen BKg1.out 3
          go_wp2_with fail
          clear hcx
          clear yg1_0 fg1_0 yg1_1 fg1_1 yg1_2 fg1_2 yg1_3 fg1_3
          refine (callI_c x h i t m r _).mono ?_
          rw [HAC.out]
          rintro e2 w1_ ⟨rfl, hb⟩
          replace HOUT := am_ (Kd.R_below (by (with_reducible repeat first | apply ra_ | apply rn_ | apply rd_); exact HOUT.out) hb); replace BKg1 := am_ (blk_below (blk_below BKg1.out (by repeat first | exact Below.refl _ _ | apply ba_ | apply bn_ | apply bd_)) hb); replace HB := am_ (below_step (by repeat first | (with_reducible first | exact HB.out | apply ba_ | apply bn_ | apply bd_) | exact HB.out) hb); clear hb
          cases so with
          | false =>
            have HFZ := am_ (show FIN = ([], false) from by rw [HST.out]; rfl)
            go_wp2
            go_ret2
            exact ⟨_, by rw [HFZ.out]; rfl, by rw [HFZ.out]; exact Kd.R_nil _ _ _ _ _, (by repeat first | (with_reducible first | exact HB.out | apply ba_ | apply bn_ | apply bd_) | exact HB.out)⟩
          | true =>
            have HFS := am_ (show histL i t m r (xs.drop (k + 1)) (h + n) (out ++ [n]) = FIN from by rw [HST.out]; rfl)
            obtain ⟨h0, h1⟩ := hok rfl
            have hn1 := hnb.1
            have hn2 := hnb.2
            clear hok
            go_wp2_with (((with_reducible refine gate_builtin (b := .append) (xs := #[.tmp 36, .tmp 38]) rfl ?_); at_builtin; refine Kd.R_append (Kd.int .i64) (w0 := w) w.heap.size rfl (.tmp 36) (.tmp 38) 39 3 (.int .i64 0) 8 rfl Try.underlying39 infoI rfl (by decide) (by omega) u6 out (n : Int) [.int .i64 n] (fun _ => True) (fun _ => False) rfl rfl ?aP (fun _ hk => hk.elim) ?aF ?aO ?aB ?aS ?aL ?_; (case aP => exact rfl); (case aB => exact (by repeat first | (with_reducible first | exact HB.out | apply ba_ | apply bn_ | apply bd_) | exact HB.out)); (case aF => exact (fun _ _ => trivial)); (case aO => exact (by (with_reducible repeat first | apply ra_ | apply rn_ | apply rd_); exact HOUT.out)); (case aS => exact (below_size (by repeat first | (with_reducible first | exact HB.out | apply ba_ | apply bn_ | apply bd_) | exact HB.out))); (case aL => omega); intro v1 w1 ho hb hg hat); have n_ := am_ (blk_grown BKg1.out hg (own_ne HOUT.out BKg1.out (by decide))); clear BKg1; have BKg1 := n_; clear n_)
            go_roundw
            case rel => exact ⟨k + 1, h + n, out ++ [n], rfl, by go_num, ⟨by omega⟩, ⟨by omega⟩, ⟨by rw [List.length_append, List.length_singleton]; have := HOL.out; omega⟩, HFS, ⟨(by (with_reducible repeat first | apply ra_ | apply rn_ | apply rd_); exact ho)⟩, ⟨(by repeat (with_reducible first | exact BKg1.out | refine kn_ ?_ _ | refine kd_ ?_ | refine ka_ ?_ _))⟩, ⟨(by repeat first | (with_reducible first | exact hb | apply ba_ | apply bn_ | apply bd_) | exact hb)⟩⟩
            case measure => simp [intOf]; omega
        · have ci : decide (k < xs.length) = false := decide_eq_false hil
          have hfe := histL_end (i := i) (t := t) (m := m) (r := r) hil h out
          rw [HF.out] at hfe
          have HFE := am_ hfe
          clear hfe
          go_wp2
          go_ret2
          exact ⟨_, by rw [HFE.out]; rfl, by rw [HFE.out]; exact (by (with_reducible repeat first | apply ra_ | apply rn_ | apply rd_); exact HOUT.out), (by repeat first | (with_reducible first | exact HB.out | apply ba_ | apply bn_ | apply bd_) | exact HB.out)⟩
    · rw [decide_eq_false ct] at g2_
      have G2 := am_ g2_
      clear g2_
      have hfin : histA xs i t m r = ([], false) := by unfold histA; rw [if_neg (fun v => ct v.2)]
      rw [hfin]
      clear hfin ca ct
      go_enter Try.func40, Try.ntmps40
      go_wp2_with (((with_reducible refine gate_dst (N := 3) rfl ?_); refine box_event ?hg (N := 3) ?hd (cs := #[.int .i64 i, .int .i64 t, .int .i64 m, .int .i64 r]) (t := 26) ?hr ?_; (case hd => rfl); (case hg => rfl); (case hr => first | (go_simp; done) | (go_simp; rfl))); intro g1 hg w_g1 hbox hb; have n_ := am_ (below_step (by repeat first | (with_reducible first | exact HB.out | apply ba_ | apply bn_ | apply bd_) | exact HB.out) hb); have BKg1 := am_ hbox; have GEg1 := am_ (show w.heap.size ≤ g1 from by rw [hg]; exact below_size (by repeat first | (with_reducible first | exact HB.out | apply ba_ | apply bn_ | apply bd_) | exact HB.out)); clear HB ; have HB := n_; clear n_ hb hbox hg)
      refine (areAms_c A0 c0 xs true G1.out _ (by repeat first | exact (Kd.C_below HR0.out HB.out) | with_reducible refine ca_ ?_ _ | with_reducible refine cn_ ?_ _ | with_reducible refine cd_ ?_) HA0.out).mono ?_
      rintro e2 w1 ⟨rfl, hb⟩
      replace BKg1 := am_ (blk_below (blk_below BKg1.out (by repeat first | exact Below.refl _ _ | apply ba_ | apply bn_ | apply bd_)) hb); replace HB := am_ (below_step (by repeat first | (with_reducible first | exact HB.out | apply ba_ | apply bn_ | apply bd_) | exact HB.out) hb); clear hb
      have yg1_0 : w1.cell? ⟨g1, 0, none⟩ = some (.int .i64 i) := (blk_cell BKg1.out 0).trans rfl; have fg1_0 := blk_frozen BKg1.out 0; have yg1_1 : w1.cell? ⟨g1, 1, none⟩ = some (.int .i64 t) := (blk_cell BKg1.out 1).trans rfl; have fg1_1 := blk_frozen BKg1.out 1; have yg1_2 : w1.cell? ⟨g1, 2, none⟩ = some (.int .i64 m) := (blk_cell BKg1.out 2).trans rfl; have fg1_2 := blk_frozen BKg1.out 2; have yg1_3 : w1.cell? ⟨g1, 3, none⟩ = some (.int .i64 r) := (blk_cell BKg1.out 3).trans rfl; have fg1_3 := blk_frozen BKg1.out 3
      go_wp2_with fail
      clear yg1_0 fg1_0 yg1_1 fg1_1 yg1_2 fg1_2 yg1_3 fg1_3
      refine (impl_isMargin.calls i t m r false _ G2.out).mono ?_
      rintro e2 w2 ⟨rfl, hb⟩
      replace BKg1 := am_ (blk_below (blk_below BKg1.out (by repeat first | exact Below.refl _ _ | apply ba_ | apply bn_ | apply bd_)) hb); replace HB := am_ (below_step (by repeat first | (with_reducible first | exact HB.out | apply ba_ | apply bn_ | apply bd_) | exact HB.out) hb); clear hb
      go_wp2
      go_ret2
      exact ⟨_, rfl, Kd.R_nil _ _ _ _ _, (by repeat first | (with_reducible first | exact HB.out | apply ba_ | apply bn_ | apply bd_ | refine below_set ?_ GEg1.out) | exact HB.out)⟩
  · rw [decide_eq_false ca] at g1_
    have G1 := am_ g1_
    clear g1_ g2_
    have hfin : histA xs i t m r = ([], false) := by unfold histA; rw [if_neg (fun v => ca v.1)]
    rw [hfin]
    clear hfin ca
    go_enter Try.func40, Try.ntmps40
    go_wp2_with (((with_reducible refine gate_dst (N := 3) rfl ?_); refine box_event ?hg (N := 3) ?hd (cs := #[.int .i64 i, .int .i64 t, .int .i64 m, .int .i64 r]) (t := 26) ?hr ?_; (case hd => rfl); (case hg => rfl); (case hr => first | (go_simp; done) | (go_simp; rfl))); intro g1 hg w_g1 hbox hb; have n_ := am_ (below_step (by repeat first | (with_reducible first | exact HB.out | apply ba_ | apply bn_ | apply bd_) | exact HB.out) hb); have BKg1 := am_ hbox; have GEg1 := am_ (show w.heap.size ≤ g1 from by rw [hg]; exact below_size (by repeat first | (with_reducible first | exact HB.out | apply ba_ | apply bn_ | apply bd_) | exact HB.out)); clear HB ; have HB := n_; clear n_ hb hbox hg)
    refine (areAms_c A0 c0 xs false G1.out _ (by repeat first | exact (Kd.C_below HR0.out HB.out) | with_reducible refine ca_ ?_ _ | with_reducible refine cn_ ?_ _ | with_reducible refine cd_ ?_) HA0.out).mono ?_
    rintro e2 w1 ⟨rfl, hb⟩
    replace BKg1 := am_ (blk_below (blk_below BKg1.out (by repeat first | exact Below.refl _ _ | apply ba_ | apply bn_ | apply bd_)) hb); replace HB := am_ (below_step (by repeat first | (with_reducible first | exact HB.out | apply ba_ | apply bn_ | apply bd_) | exact HB.out) hb); clear hb
    go_wp2
    go_ret2
    exact ⟨_, rfl, Kd.R_nil _ _ _ _ _, (by repeat first | (with_reducible first | exact HB.out | apply ba_ | apply bn_ | apply bd_ | refine below_set ?_ GEg1.out) | exact HB.out)⟩
theorem spec_c (A0 : Option Addr) (c0 : Nat) (xs : List Int) (i t m r : Int) (w : World) (hr0 : (Kd.int .i64).C w A0 xs.length xs) (hc0 : xs.length ≤ c0) (ha0 : 0 < xs.length → ∃ b, A0 = some ⟨b, 0, none⟩) (hn : xs.length ≤ 1048576) :
    Calls Try.prog 39 #[.slice A0 xs.length c0, .agg #[.int .i64 i, .int .i64 t, .int .i64 m, .int .i64 r]] w fun e2 w' => ∃ v, e2 = .returned (.tuple #[v, .bool (histA xs i t m r).2]) ∧ (Kd.int .i64).R 3 w' w.heap.size (fun _ => True) v (histA xs i t m r).1 ∧ Below w.heap.size w w' :=
  histS_c A0 c0 xs i t m r w hr0 hc0 ha0 hn
theorem impl_c (A0 : Option Addr) (c0 : Nat) (xs : List Int) (i t m r : Int) (w : World) (hr0 : (Kd.int .i64).C w A0 xs.length xs) (hc0 : xs.length ≤ c0) (ha0 : 0 < xs.length → ∃ b, A0 = some ⟨b, 0, none⟩) (hn : xs.length ≤ 1048576) :
    Calls Try.prog 40 #[.slice A0 xs.length c0, .agg #[.int .i64 i, .int .i64 t, .int .i64 m, .int .i64 r]] w fun e2 w' => ∃ v, e2 = .returned (.tuple #[v, .bool (histA xs i t m r).2]) ∧ (Kd.int .i64).R 3 w' w.heap.size (fun _ => True) v (histA xs i t m r).1 ∧ Below w.heap.size w w' :=
  histI_c A0 c0 xs i t m r w hr0 hc0 ha0 hn
set_option maxHeartbeats 16000000 in
set_option maxRecDepth 100000 in
theorem law_c (A0 : Option Addr) (c0 : Nat) (l0 : List Int) (a1_0 a1_1 a1_2 a1_3 : Int) (w : World) (hr0 : Kd.C (Kd.int .i64) w A0 l0.length l0) (hc0 : l0.length ≤ c0) (hi1 : KReads.InI a1_0 ∧ KReads.InI a1_1 ∧ KReads.InI a1_2 ∧ KReads.InI a1_3) (he0 : ∀ y ∈ l0, KReads.InI y) :
    Calls Try.prog 10 #[.slice A0 l0.length c0, .agg #[.int .i64 a1_0, .int .i64 a1_1, .int .i64 a1_2, .int .i64 a1_3]] w fun e w' => e = .returned (.bool true) ∧ Below w.heap.size w w' := by
  have HR0 := am_ hr0
  have HC0 := am_ hc0
  have HM0 := am_ (Kd.C_max hr0)
  clear hr0 hc0
  by_cases hn0 : l0.length ≤ 1048576
  rotate_left
  · have hn_ := hn0
    have cl0 : decide (1048576 < l0.length) = true := decide_eq_true (by omega)
    clear hn_
    go_enter Try.func10, Try.ntmps10
    go_wp2_with fail
    go_ret
    exact ⟨rfl, (by repeat (first | (with_reducible first | exact Below.refl _ _ | apply below_alloc | apply pw_below_drewN | apply below_drew1) | exact Below.refl _ _))⟩
  have cl0 : decide (1048576 < l0.length) = false := decide_eq_false (by omega)
  have hv0 := hn0
  have HL0 := am_ (show ((histA l0 a1_0 a1_1 a1_2 a1_3).1).length ≤ 1048576 from by have h_ := histA_len l0 a1_0 a1_1 a1_2 a1_3; omega)
  have HB0 := am_ (Below.refl w.heap.size w)
  have HK1 := am_ (blk_new w (.cells #[.int .i64 a1_0, .int .i64 a1_1, .int .i64 a1_2, .int .i64 a1_3] 23 (0, 0)))
  obtain ⟨kX0, hX0⟩ := roundsOf (toIntS_ev l0 hn0)
  have X0 := am_ hX0
  clear hX0
  obtain ⟨kX1, hX1⟩ := roundsOf (eqIntS_ev (histA l0 a1_0 a1_1 a1_2 a1_3).1 (by have h_ := HL0.out; omega))
  have X1 := am_ hX1
  clear hX1
  obtain ⟨kX2, hX2⟩ := roundsOf (eqIntS_ev l0 (by have h_ := hv0; omega))
  have X2 := am_ hX2
  clear hX2
  obtain ⟨kX3, hX3⟩ := roundsOf (markIntS_ev l0 1 (by omega) (by have h_ := hv0; omega) (by have h_ := hv0; omega))
  obtain ⟨mX3, eX3⟩ : ∃ m_ : Int, m_ = 1 + ((l0).length : Int) := ⟨_, rfl⟩
  rw [← eX3] at hX3
  obtain ⟨UX3, uX3⟩ : ∃ U_ : List Int, U_ = upFrom (l0).length 1 := ⟨_, rfl⟩
  rw [← uX3] at hX3
  have VX3 := am_ (show UX3.length = (l0).length from by rw [uX3, upFrom_length])
  have ZX3 := am_ uX3
  clear uX3
  have cX3 : decide (mX3 < 0) = false := decide_eq_false (by omega)
  have PX3 := am_ (show 0 ≤ mX3 ∧ mX3 ≤ 1 + 8388608 from by have h_ := hv0; omega)
  have MX3 := am_ eX3
  clear eX3
  have X3 := am_ hX3
  clear hX3
  obtain ⟨kX4, hX4⟩ := roundsOf (markIntS_ev (histA l0 a1_0 a1_1 a1_2 a1_3).1 1 (by omega) (by have h_ := HL0.out; omega) (by have h_ := HL0.out; omega))
  obtain ⟨mX4, eX4⟩ : ∃ m_ : Int, m_ = 1 + (((histA l0 a1_0 a1_1 a1_2 a1_3).1).length : Int) := ⟨_, rfl⟩
  rw [← eX4] at hX4
  obtain ⟨UX4, uX4⟩ : ∃ U_ : List Int, U_ = upFrom ((histA l0 a1_0 a1_1 a1_2 a1_3).1).length 1 := ⟨_, rfl⟩
  rw [← uX4] at hX4
  have VX4 := am_ (show UX4.length = ((histA l0 a1_0 a1_1 a1_2 a1_3).1).length from by rw [uX4, upFrom_length])
  have ZX4 := am_ uX4
  clear uX4
  have cX4 : decide (mX4 < 0) = false := decide_eq_false (by omega)
  have PX4 := am_ (show 0 ≤ mX4 ∧ mX4 ≤ 1 + 8388608 from by have h_ := HL0.out; omega)
  have MX4 := am_ eX4
  clear eX4
  have X4 := am_ hX4
  clear hX4
  obtain ⟨kX5, hX5⟩ := roundsOf (heldIntS_ev ((histA l0 a1_0 a1_1 a1_2 a1_3).1).length 1 (by omega) (by have h_ := HL0.out; omega) (by have h_ := HL0.out; omega))
  rw [← MX4.out, ← ZX4.out] at hX5
  have X5 := am_ hX5
  clear hX5
  go_enter Try.func10, Try.ntmps10
  go_wp2_with fail
  go_region_held3 (fun W_ => W_.cell? ⟨w.heap.size, 0, none⟩ = some (.int .i64 a1_0) ∧ W_.cell? ⟨w.heap.size, 1, none⟩ = some (.int .i64 a1_1) ∧ W_.cell? ⟨w.heap.size, 2, none⟩ = some (.int .i64 a1_2) ∧ W_.cell? ⟨w.heap.size, 3, none⟩ = some (.int .i64 a1_3)) (first | exact ⟨(blk_cell HK1.out 0).trans rfl, (blk_cell HK1.out 1).trans rfl, (blk_cell HK1.out 2).trans rfl, (blk_cell HK1.out 3).trans rfl⟩ | go_keep) (first
    | (go_at_call 27; refine (laws_toIntS.calls kX0 _ _ l0 _ _ (by repeat (first | exact (Kd.C_below HR0.out HB0.out) | (with_reducible refine Kd.C_alloc ?_ _) | (with_reducible refine Kd.C_drewN ?_ _) | (with_reducible refine Kd.C_drew ?_))) HC0.out X0.out).mono ?_; rintro e w1 ⟨v, rfl, ho, hb⟩; have n_ := am_ (blk_below (blk_below HK1.out (by repeat (first | (with_reducible first | exact Below.refl _ _ | apply below_alloc | apply pw_below_drewN | apply below_drew1) | exact Below.refl _ _))) hb); clear HK1; have HK1 := n_; clear n_; have SZB := am_ (show w.heap.size < w1.heap.size from blk_lt HK1.out); have HB1 := am_ (below_step (by repeat (first | (with_reducible first | exact HB0.out | apply below_alloc | apply pw_below_drewN | apply below_drew1) | exact HB0.out)) hb); have SZ1 := am_ (show w.heap.size ≤ w1.heap.size from below_size (below_step (by repeat (first | (with_reducible first | exact Below.refl _ _ | apply below_alloc | apply pw_below_drewN | apply below_drew1) | exact Below.refl _ _)) hb)); have HOt1 := am_ (R_ivw (a := w.heap.size) (b := w.heap.size) ho (below_size (by repeat (first | (with_reducible first | exact Below.refl _ _ | apply below_alloc | apply pw_below_drewN | apply below_drew1) | exact Below.refl _ _))) (below_size (by repeat (first | (with_reducible first | exact HB0.out | apply below_alloc | apply pw_below_drewN | apply below_drew1) | exact HB0.out)))); obtain ⟨Art1, crt1, ert1⟩ := Kd.R_slice HOt1.out; subst ert1; clear ho hb)
    | (go_at_call 15; refine (laws_toMarginTerms.calls a1_0 a1_1 a1_2 a1_3 a1_0 a1_1 a1_2 a1_3 _ rfl).mono ?_; rintro e w2 ⟨rfl, hb⟩; have n_ := am_ (blk_below (blk_below HK1.out (by repeat (first | (with_reducible first | exact Below.refl _ _ | apply below_alloc | apply pw_below_drewN | apply below_drew1) | exact Below.refl _ _))) hb); clear HK1; have HK1 := n_; clear n_; have n_ := am_ (Kd.R_below (by (with_reducible repeat (first | apply Kd.R_alloc | apply Kd.R_drewN | apply Kd.R_drew)); exact HOt1.out) hb); clear HOt1; have HOt1 := n_; clear n_; have HB2 := am_ (below_step (by repeat (first | (with_reducible first | exact HB1.out | apply below_alloc | apply pw_below_drewN | apply below_drew1) | exact HB1.out)) hb); have SZ2 := am_ (show w1.heap.size ≤ w2.heap.size from below_size (below_step (by repeat (first | (with_reducible first | exact Below.refl _ _ | apply below_alloc | apply pw_below_drewN | apply below_drew1) | exact Below.refl _ _)) hb)); clear hb)
    | (go_at_call 39; refine (spec_c _ _ l0 a1_0 a1_1 a1_2 a1_3 _ (by repeat (first | exact (Kd.R_reads' HOt1.out).2.2 | (with_reducible refine Kd.C_alloc ?_ _) | (with_reducible refine Kd.C_drewN ?_ _) | (with_reducible refine Kd.C_drew ?_))) (Kd.R_reads' HOt1.out).2.1 (fun hp => R_head HOt1.out hp) hv0 ).mono ?_; rintro e w3 ⟨v, rfl, ho, hb⟩; have n_ := am_ (blk_below (blk_below HK1.out (by repeat (first | (with_reducible first | exact Below.refl _ _ | apply below_alloc | apply pw_below_drewN | apply below_drew1) | exact Below.refl _ _))) hb); clear HK1; have HK1 := n_; clear n_; have n_ := am_ (Kd.R_below (by (with_reducible repeat (first | apply Kd.R_alloc | apply Kd.R_drewN | apply Kd.R_drew)); exact HOt1.out) hb); clear HOt1; have HOt1 := n_; clear n_; have HB3 := am_ (below_step (by repeat (first | (with_reducible first | exact HB2.out | apply below_alloc | apply pw_below_drewN | apply below_drew1) | exact HB2.out)) hb); have SZ3 := am_ (show w2.heap.size ≤ w3.heap.size from below_size (below_step (by repeat (first | (with_reducible first | exact Below.refl _ _ | apply below_alloc | apply pw_below_drewN | apply below_drew1) | exact Below.refl _ _)) hb)); have HOw0 := am_ (R_ivw (a := w2.heap.size) (b := w.heap.size) ho (below_size (by repeat (first | (with_reducible first | exact Below.refl _ _ | apply below_alloc | apply pw_below_drewN | apply below_drew1) | exact Below.refl _ _))) (below_size (by repeat (first | (with_reducible first | exact HB2.out | apply below_alloc | apply pw_below_drewN | apply below_drew1) | exact HB2.out)))); obtain ⟨Arw0, crw0, erw0⟩ := Kd.R_slice HOw0.out; subst erw0; clear ho hb))
  have yk1_0 : w3.cell? ⟨w.heap.size, 0, none⟩ = some (.int .i64 a1_0) := (blk_cell HK1.out 0).trans rfl
  have yk1_1 : w3.cell? ⟨w.heap.size, 1, none⟩ = some (.int .i64 a1_1) := (blk_cell HK1.out 1).trans rfl
  have yk1_2 : w3.cell? ⟨w.heap.size, 2, none⟩ = some (.int .i64 a1_2) := (blk_cell HK1.out 2).trans rfl
  have yk1_3 : w3.cell? ⟨w.heap.size, 3, none⟩ = some (.int .i64 a1_3) := (blk_cell HK1.out 3).trans rfl
  go_wp2_with fail
  clear yk1_0 yk1_1 yk1_2 yk1_3
  refine (laws_toIntS.calls kX0 _ _ l0 _ _ (by repeat (first | exact (Kd.C_below HR0.out HB3.out) | (with_reducible refine Kd.C_alloc ?_ _) | (with_reducible refine Kd.C_drewN ?_ _) | (with_reducible refine Kd.C_drew ?_))) HC0.out X0.out).mono ?_
  rintro e w4 ⟨v, rfl, ho, hb⟩
  have n_ := am_ (blk_below (blk_below HK1.out (by repeat (first | (with_reducible first | exact Below.refl _ _ | apply below_alloc | apply pw_below_drewN | apply below_drew1) | exact Below.refl _ _))) hb); clear HK1; have HK1 := n_; clear n_
  have n_ := am_ (Kd.R_below (by (with_reducible repeat (first | apply Kd.R_alloc | apply Kd.R_drewN | apply Kd.R_drew)); exact HOw0.out) hb); clear HOw0; have HOw0 := n_; clear n_
  have HB4 := am_ (below_step (by repeat (first | (with_reducible first | exact HB3.out | apply below_alloc | apply pw_below_drewN | apply below_drew1) | exact HB3.out)) hb)
  have SZ4 := am_ (show w3.heap.size ≤ w4.heap.size from below_size (below_step (by repeat (first | (with_reducible first | exact Below.refl _ _ | apply below_alloc | apply pw_below_drewN | apply below_drew1) | exact Below.refl _ _)) hb))
  have HOx0 := am_ (R_ivw (a := w3.heap.size) (b := w.heap.size) ho (below_size (by repeat (first | (with_reducible first | exact Below.refl _ _ | apply below_alloc | apply pw_below_drewN | apply below_drew1) | exact Below.refl _ _))) (below_size (by repeat (first | (with_reducible first | exact HB3.out | apply below_alloc | apply pw_below_drewN | apply below_drew1) | exact HB3.out))))
  obtain ⟨Arx0, crx0, erx0⟩ := Kd.R_slice HOx0.out
  subst erx0
  clear ho hb
  have yk1_0 : w4.cell? ⟨w.heap.size, 0, none⟩ = some (.int .i64 a1_0) := (blk_cell HK1.out 0).trans rfl
  have yk1_1 : w4.cell? ⟨w.heap.size, 1, none⟩ = some (.int .i64 a1_1) := (blk_cell HK1.out 1).trans rfl
  have yk1_2 : w4.cell? ⟨w.heap.size, 2, none⟩ = some (.int .i64 a1_2) := (blk_cell HK1.out 2).trans rfl
  have yk1_3 : w4.cell? ⟨w.heap.size, 3, none⟩ = some (.int .i64 a1_3) := (blk_cell HK1.out 3).trans rfl
  go_wp2_with fail
  clear yk1_0 yk1_1 yk1_2 yk1_3
  refine (laws_toMarginTerms.calls a1_0 a1_1 a1_2 a1_3 a1_0 a1_1 a1_2 a1_3 _ rfl).mono ?_
  rintro e w5 ⟨rfl, hb⟩
  have n_ := am_ (blk_below (blk_below HK1.out (by repeat (first | (with_reducible first | exact Below.refl _ _ | apply below_alloc | apply pw_below_drewN | apply below_drew1) | exact Below.refl _ _))) hb); clear HK1; have HK1 := n_; clear n_
  have n_ := am_ (Kd.R_below (by (with_reducible repeat (first | apply Kd.R_alloc | apply Kd.R_drewN | apply Kd.R_drew)); exact HOw0.out) hb); clear HOw0; have HOw0 := n_; clear n_
  have n_ := am_ (Kd.R_below (by (with_reducible repeat (first | apply Kd.R_alloc | apply Kd.R_drewN | apply Kd.R_drew)); exact HOx0.out) hb); clear HOx0; have HOx0 := n_; clear n_
  have HB5 := am_ (below_step (by repeat (first | (with_reducible first | exact HB4.out | apply below_alloc | apply pw_below_drewN | apply below_drew1) | exact HB4.out)) hb)
  have SZ5 := am_ (show w4.heap.size ≤ w5.heap.size from below_size (below_step (by repeat (first | (with_reducible first | exact Below.refl _ _ | apply below_alloc | apply pw_below_drewN | apply below_drew1) | exact Below.refl _ _)) hb))
  clear hb
  have yk1_0 : w5.cell? ⟨w.heap.size, 0, none⟩ = some (.int .i64 a1_0) := (blk_cell HK1.out 0).trans rfl
  have yk1_1 : w5.cell? ⟨w.heap.size, 1, none⟩ = some (.int .i64 a1_1) := (blk_cell HK1.out 1).trans rfl
  have yk1_2 : w5.cell? ⟨w.heap.size, 2, none⟩ = some (.int .i64 a1_2) := (blk_cell HK1.out 2).trans rfl
  have yk1_3 : w5.cell? ⟨w.heap.size, 3, none⟩ = some (.int .i64 a1_3) := (blk_cell HK1.out 3).trans rfl
  go_wp2_with fail
  clear yk1_0 yk1_1 yk1_2 yk1_3
  refine (impl_c _ _ l0 a1_0 a1_1 a1_2 a1_3 _ (by repeat (first | exact (Kd.R_reads' HOx0.out).2.2 | (with_reducible refine Kd.C_alloc ?_ _) | (with_reducible refine Kd.C_drewN ?_ _) | (with_reducible refine Kd.C_drew ?_))) (Kd.R_reads' HOx0.out).2.1 (fun hp => R_head HOx0.out hp) hv0 ).mono ?_
  rintro e w6 ⟨v, rfl, ho, hb⟩
  have n_ := am_ (blk_below (blk_below HK1.out (by repeat (first | (with_reducible first | exact Below.refl _ _ | apply below_alloc | apply pw_below_drewN | apply below_drew1) | exact Below.refl _ _))) hb); clear HK1; have HK1 := n_; clear n_
  have n_ := am_ (Kd.R_below (by (with_reducible repeat (first | apply Kd.R_alloc | apply Kd.R_drewN | apply Kd.R_drew)); exact HOw0.out) hb); clear HOw0; have HOw0 := n_; clear n_
  have n_ := am_ (Kd.R_below (by (with_reducible repeat (first | apply Kd.R_alloc | apply Kd.R_drewN | apply Kd.R_drew)); exact HOx0.out) hb); clear HOx0; have HOx0 := n_; clear n_
  have HB6 := am_ (below_step (by repeat (first | (with_reducible first | exact HB5.out | apply below_alloc | apply pw_below_drewN | apply below_drew1) | exact HB5.out)) hb)
  have SZ6 := am_ (show w5.heap.size ≤ w6.heap.size from below_size (below_step (by repeat (first | (with_reducible first | exact Below.refl _ _ | apply below_alloc | apply pw_below_drewN | apply below_drew1) | exact Below.refl _ _)) hb))
  have HOg0 := am_ (R_ivw (a := w5.heap.size) (b := w.heap.size) ho (below_size (by repeat (first | (with_reducible first | exact Below.refl _ _ | apply below_alloc | apply pw_below_drewN | apply below_drew1) | exact Below.refl _ _))) (below_size (by repeat (first | (with_reducible first | exact HB5.out | apply below_alloc | apply pw_below_drewN | apply below_drew1) | exact HB5.out))))
  obtain ⟨Arg0, crg0, erg0⟩ := Kd.R_slice HOg0.out
  subst erg0
  clear ho hb
  have yk1_0 : w6.cell? ⟨w.heap.size, 0, none⟩ = some (.int .i64 a1_0) := (blk_cell HK1.out 0).trans rfl
  have yk1_1 : w6.cell? ⟨w.heap.size, 1, none⟩ = some (.int .i64 a1_1) := (blk_cell HK1.out 1).trans rfl
  have yk1_2 : w6.cell? ⟨w.heap.size, 2, none⟩ = some (.int .i64 a1_2) := (blk_cell HK1.out 2).trans rfl
  have yk1_3 : w6.cell? ⟨w.heap.size, 3, none⟩ = some (.int .i64 a1_3) := (blk_cell HK1.out 3).trans rfl
  go_wp2_with fail
  clear yk1_0 yk1_1 yk1_2 yk1_3
  refine (laws_eqIntS.calls kX1 _ _ (histA l0 a1_0 a1_1 a1_2 a1_3).1 _ _ (histA l0 a1_0 a1_1 a1_2 a1_3).1 true _ (by repeat (first | exact (Kd.R_reads' HOg0.out).2.2 | (with_reducible refine Kd.C_alloc ?_ _) | (with_reducible refine Kd.C_drewN ?_ _) | (with_reducible refine Kd.C_drew ?_))) (Kd.R_reads' HOg0.out).2.1 (by repeat (first | exact (Kd.R_reads' HOw0.out).2.2 | (with_reducible refine Kd.C_alloc ?_ _) | (with_reducible refine Kd.C_drewN ?_ _) | (with_reducible refine Kd.C_drew ?_))) (Kd.R_reads' HOw0.out).2.1 X1.out).mono ?_
  rintro e w7 ⟨rfl, hb0⟩
  have hb := db_ hb0
  clear hb0
  have n_ := am_ (blk_below (blk_below HK1.out (by repeat (first | (with_reducible first | exact Below.refl _ _ | apply below_alloc | apply pw_below_drewN | apply below_drew1) | exact Below.refl _ _))) hb); clear HK1; have HK1 := n_; clear n_
  have n_ := am_ (Kd.R_below (by (with_reducible repeat (first | apply Kd.R_alloc | apply Kd.R_drewN | apply Kd.R_drew)); exact HOw0.out) hb); clear HOw0; have HOw0 := n_; clear n_
  have n_ := am_ (Kd.R_below (by (with_reducible repeat (first | apply Kd.R_alloc | apply Kd.R_drewN | apply Kd.R_drew)); exact HOx0.out) hb); clear HOx0; have HOx0 := n_; clear n_
  have n_ := am_ (Kd.R_below (by (with_reducible repeat (first | apply Kd.R_alloc | apply Kd.R_drewN | apply Kd.R_drew)); exact HOg0.out) hb); clear HOg0; have HOg0 := n_; clear n_
  have HB7 := am_ (below_step (by repeat (first | (with_reducible first | exact HB6.out | apply below_alloc | apply pw_below_drewN | apply below_drew1) | exact HB6.out)) hb)
  have SZ7 := am_ (show w6.heap.size ≤ w7.heap.size from below_size (below_step (by repeat (first | (with_reducible first | exact Below.refl _ _ | apply below_alloc | apply pw_below_drewN | apply below_drew1) | exact Below.refl _ _)) hb))
  clear hb
  have yk1_0 : w7.cell? ⟨w.heap.size, 0, none⟩ = some (.int .i64 a1_0) := (blk_cell HK1.out 0).trans rfl
  have yk1_1 : w7.cell? ⟨w.heap.size, 1, none⟩ = some (.int .i64 a1_1) := (blk_cell HK1.out 1).trans rfl
  have yk1_2 : w7.cell? ⟨w.heap.size, 2, none⟩ = some (.int .i64 a1_2) := (blk_cell HK1.out 2).trans rfl
  have yk1_3 : w7.cell? ⟨w.heap.size, 3, none⟩ = some (.int .i64 a1_3) := (blk_cell HK1.out 3).trans rfl
  go_wp2_with fail
  clear yk1_0 yk1_1 yk1_2 yk1_3
  refine (laws_toIntS.calls kX0 _ _ l0 _ _ (by repeat (first | exact (Kd.C_below HR0.out HB7.out) | (with_reducible refine Kd.C_alloc ?_ _) | (with_reducible refine Kd.C_drewN ?_ _) | (with_reducible refine Kd.C_drew ?_))) HC0.out X0.out).mono ?_
  rintro e w8 ⟨v, rfl, ho, hb⟩
  have n_ := am_ (blk_below (blk_below HK1.out (by repeat (first | (with_reducible first | exact Below.refl _ _ | apply below_alloc | apply pw_below_drewN | apply below_drew1) | exact Below.refl _ _))) hb); clear HK1; have HK1 := n_; clear n_
  have n_ := am_ (Kd.R_below (by (with_reducible repeat (first | apply Kd.R_alloc | apply Kd.R_drewN | apply Kd.R_drew)); exact HOw0.out) hb); clear HOw0; have HOw0 := n_; clear n_
  have n_ := am_ (Kd.R_below (by (with_reducible repeat (first | apply Kd.R_alloc | apply Kd.R_drewN | apply Kd.R_drew)); exact HOx0.out) hb); clear HOx0; have HOx0 := n_; clear n_
  have n_ := am_ (Kd.R_below (by (with_reducible repeat (first | apply Kd.R_alloc | apply Kd.R_drewN | apply Kd.R_drew)); exact HOg0.out) hb); clear HOg0; have HOg0 := n_; clear n_
  have HB8 := am_ (below_step (by repeat (first | (with_reducible first | exact HB7.out | apply below_alloc | apply pw_below_drewN | apply below_drew1) | exact HB7.out)) hb)
  have SZ8 := am_ (show w7.heap.size ≤ w8.heap.size from below_size (below_step (by repeat (first | (with_reducible first | exact Below.refl _ _ | apply below_alloc | apply pw_below_drewN | apply below_drew1) | exact Below.refl _ _)) hb))
  have HOt2 := am_ (R_ivw (a := w7.heap.size) (b := w.heap.size) ho (below_size (by repeat (first | (with_reducible first | exact Below.refl _ _ | apply below_alloc | apply pw_below_drewN | apply below_drew1) | exact Below.refl _ _))) (below_size (by repeat (first | (with_reducible first | exact HB7.out | apply below_alloc | apply pw_below_drewN | apply below_drew1) | exact HB7.out))))
  obtain ⟨Art2, crt2, ert2⟩ := Kd.R_slice HOt2.out
  subst ert2
  clear ho hb
  have yk1_0 : w8.cell? ⟨w.heap.size, 0, none⟩ = some (.int .i64 a1_0) := (blk_cell HK1.out 0).trans rfl
  have yk1_1 : w8.cell? ⟨w.heap.size, 1, none⟩ = some (.int .i64 a1_1) := (blk_cell HK1.out 1).trans rfl
  have yk1_2 : w8.cell? ⟨w.heap.size, 2, none⟩ = some (.int .i64 a1_2) := (blk_cell HK1.out 2).trans rfl
  have yk1_3 : w8.cell? ⟨w.heap.size, 3, none⟩ = some (.int .i64 a1_3) := (blk_cell HK1.out 3).trans rfl
  go_wp2_with fail
  clear yk1_0 yk1_1 yk1_2 yk1_3
  refine (laws_eqIntS.calls kX2 _ _ l0 _ _ l0 true _ (by repeat (first | exact (Kd.R_reads' HOx0.out).2.2 | (with_reducible refine Kd.C_alloc ?_ _) | (with_reducible refine Kd.C_drewN ?_ _) | (with_reducible refine Kd.C_drew ?_))) (Kd.R_reads' HOx0.out).2.1 (by repeat (first | exact (Kd.R_reads' HOt2.out).2.2 | (with_reducible refine Kd.C_alloc ?_ _) | (with_reducible refine Kd.C_drewN ?_ _) | (with_reducible refine Kd.C_drew ?_))) (Kd.R_reads' HOt2.out).2.1 X2.out).mono ?_
  rintro e w9 ⟨rfl, hb0⟩
  have hb := db_ hb0
  clear hb0
  have n_ := am_ (blk_below (blk_below HK1.out (by repeat (first | (with_reducible first | exact Below.refl _ _ | apply below_alloc | apply pw_below_drewN | apply below_drew1) | exact Below.refl _ _))) hb); clear HK1; have HK1 := n_; clear n_
  have n_ := am_ (Kd.R_below (by (with_reducible repeat (first | apply Kd.R_alloc | apply Kd.R_drewN | apply Kd.R_drew)); exact HOw0.out) hb); clear HOw0; have HOw0 := n_; clear n_
  have n_ := am_ (Kd.R_below (by (with_reducible repeat (first | apply Kd.R_alloc | apply Kd.R_drewN | apply Kd.R_drew)); exact HOx0.out) hb); clear HOx0; have HOx0 := n_; clear n_
  have n_ := am_ (Kd.R_below (by (with_reducible repeat (first | apply Kd.R_alloc | apply Kd.R_drewN | apply Kd.R_drew)); exact HOg0.out) hb); clear HOg0; have HOg0 := n_; clear n_
  have n_ := am_ (Kd.R_below (by (with_reducible repeat (first | apply Kd.R_alloc | apply Kd.R_drewN | apply Kd.R_drew)); exact HOt2.out) hb); clear HOt2; have HOt2 := n_; clear n_
  have HB9 := am_ (below_step (by repeat (first | (with_reducible first | exact HB8.out | apply below_alloc | apply pw_below_drewN | apply below_drew1) | exact HB8.out)) hb)
  have SZ9 := am_ (show w8.heap.size ≤ w9.heap.size from below_size (below_step (by repeat (first | (with_reducible first | exact Below.refl _ _ | apply below_alloc | apply pw_below_drewN | apply below_drew1) | exact Below.refl _ _)) hb))
  clear hb
  have yk1_0 : w9.cell? ⟨w.heap.size, 0, none⟩ = some (.int .i64 a1_0) := (blk_cell HK1.out 0).trans rfl
  have yk1_1 : w9.cell? ⟨w.heap.size, 1, none⟩ = some (.int .i64 a1_1) := (blk_cell HK1.out 1).trans rfl
  have yk1_2 : w9.cell? ⟨w.heap.size, 2, none⟩ = some (.int .i64 a1_2) := (blk_cell HK1.out 2).trans rfl
  have yk1_3 : w9.cell? ⟨w.heap.size, 3, none⟩ = some (.int .i64 a1_3) := (blk_cell HK1.out 3).trans rfl
  go_wp2_with fail
  clear yk1_0 yk1_1 yk1_2 yk1_3
  refine (laws_markIntS.calls kX3 (Iv w3.heap.size w4.heap.size) _ l0 1 _ _ w _ (by repeat (first | (with_reducible first | exact HB9.out | apply below_alloc | apply pw_below_drewN | apply below_drew1) | exact HB9.out)) (by (with_reducible repeat (first | apply Kd.R_alloc | apply Kd.R_drewN | apply Kd.R_drew)); exact HOx0.out) X3.out).mono ?_
  rintro e w10 ⟨rfl, ho, hb, hk⟩
  have n_ := am_ (blk_kept (blk_below HK1.out (by repeat (first | (with_reducible first | exact Below.refl _ _ | apply below_alloc | apply pw_below_drewN | apply below_drew1) | exact Below.refl _ _))) hk (fun h2_ => by have c_ := h2_.1; have d_ := h2_.2; have b_ := SZB.out; have SZ1_ := SZ1.out; have SZ2_ := SZ2.out; have SZ3_ := SZ3.out; have SZ4_ := SZ4.out; have SZ5_ := SZ5.out; have SZ6_ := SZ6.out; have SZ7_ := SZ7.out; have SZ8_ := SZ8.out; have SZ9_ := SZ9.out; omega)); clear HK1; have HK1 := n_; clear n_
  have n_ := am_ (Kd.R_kept (by (with_reducible repeat (first | apply Kd.R_alloc | apply Kd.R_drewN | apply Kd.R_drew)); exact HOw0.out) hk (fun k h1_ h2_ => by have a_ := h1_.1; have b_ := h1_.2; have c_ := h2_.1; have d_ := h2_.2; have SZ1_ := SZ1.out; have SZ2_ := SZ2.out; have SZ3_ := SZ3.out; have SZ4_ := SZ4.out; have SZ5_ := SZ5.out; have SZ6_ := SZ6.out; have SZ7_ := SZ7.out; have SZ8_ := SZ8.out; have SZ9_ := SZ9.out; omega)); clear HOw0; have HOw0 := n_; clear n_
  have n_ := am_ (Kd.R_kept (by (with_reducible repeat (first | apply Kd.R_alloc | apply Kd.R_drewN | apply Kd.R_drew)); exact HOg0.out) hk (fun k h1_ h2_ => by have a_ := h1_.1; have b_ := h1_.2; have c_ := h2_.1; have d_ := h2_.2; have SZ1_ := SZ1.out; have SZ2_ := SZ2.out; have SZ3_ := SZ3.out; have SZ4_ := SZ4.out; have SZ5_ := SZ5.out; have SZ6_ := SZ6.out; have SZ7_ := SZ7.out; have SZ8_ := SZ8.out; have SZ9_ := SZ9.out; omega)); clear HOg0; have HOg0 := n_; clear n_
  have HB10 := am_ hb
  have SZ10 := am_ (show w9.heap.size ≤ w10.heap.size from hk.1)
  have n_ := am_ (R_flat flat_int ho HOx0.out.1); clear HOx0; have HOx0 := n_; clear n_
  clear ho hb hk
  have yk1_0 : w10.cell? ⟨w.heap.size, 0, none⟩ = some (.int .i64 a1_0) := (blk_cell HK1.out 0).trans rfl
  have yk1_1 : w10.cell? ⟨w.heap.size, 1, none⟩ = some (.int .i64 a1_1) := (blk_cell HK1.out 1).trans rfl
  have yk1_2 : w10.cell? ⟨w.heap.size, 2, none⟩ = some (.int .i64 a1_2) := (blk_cell HK1.out 2).trans rfl
  have yk1_3 : w10.cell? ⟨w.heap.size, 3, none⟩ = some (.int .i64 a1_3) := (blk_cell HK1.out 3).trans rfl
  go_wp2_with fail
  clear yk1_0 yk1_1 yk1_2 yk1_3
  refine (laws_eqIntS.calls kX1 _ _ (histA l0 a1_0 a1_1 a1_2 a1_3).1 _ _ (histA l0 a1_0 a1_1 a1_2 a1_3).1 true _ (by repeat (first | exact (Kd.R_reads' HOg0.out).2.2 | (with_reducible refine Kd.C_alloc ?_ _) | (with_reducible refine Kd.C_drewN ?_ _) | (with_reducible refine Kd.C_drew ?_))) (Kd.R_reads' HOg0.out).2.1 (by repeat (first | exact (Kd.R_reads' HOw0.out).2.2 | (with_reducible refine Kd.C_alloc ?_ _) | (with_reducible refine Kd.C_drewN ?_ _) | (with_reducible refine Kd.C_drew ?_))) (Kd.R_reads' HOw0.out).2.1 X1.out).mono ?_
  rintro e w11 ⟨rfl, hb0⟩
  have hb := db_ hb0
  clear hb0
  have n_ := am_ (blk_below (blk_below HK1.out (by repeat (first | (with_reducible first | exact Below.refl _ _ | apply below_alloc | apply pw_below_drewN | apply below_drew1) | exact Below.refl _ _))) hb); clear HK1; have HK1 := n_; clear n_
  have n_ := am_ (Kd.R_below (by (with_reducible repeat (first | apply Kd.R_alloc | apply Kd.R_drewN | apply Kd.R_drew)); exact HOw0.out) hb); clear HOw0; have HOw0 := n_; clear n_
  have n_ := am_ (Kd.R_below (by (with_reducible repeat (first | apply Kd.R_alloc | apply Kd.R_drewN | apply Kd.R_drew)); exact HOx0.out) hb); clear HOx0; have HOx0 := n_; clear n_
  have n_ := am_ (Kd.R_below (by (with_reducible repeat (first | apply Kd.R_alloc | apply Kd.R_drewN | apply Kd.R_drew)); exact HOg0.out) hb); clear HOg0; have HOg0 := n_; clear n_
  have HB11 := am_ (below_step (by repeat (first | (with_reducible first | exact HB10.out | apply below_alloc | apply pw_below_drewN | apply below_drew1) | exact HB10.out)) hb)
  have SZ11 := am_ (show w10.heap.size ≤ w11.heap.size from below_size (below_step (by repeat (first | (with_reducible first | exact Below.refl _ _ | apply below_alloc | apply pw_below_drewN | apply below_drew1) | exact Below.refl _ _)) hb))
  clear hb
  have yk1_0 : w11.cell? ⟨w.heap.size, 0, none⟩ = some (.int .i64 a1_0) := (blk_cell HK1.out 0).trans rfl
  have yk1_1 : w11.cell? ⟨w.heap.size, 1, none⟩ = some (.int .i64 a1_1) := (blk_cell HK1.out 1).trans rfl
  have yk1_2 : w11.cell? ⟨w.heap.size, 2, none⟩ = some (.int .i64 a1_2) := (blk_cell HK1.out 2).trans rfl
  have yk1_3 : w11.cell? ⟨w.heap.size, 3, none⟩ = some (.int .i64 a1_3) := (blk_cell HK1.out 3).trans rfl
  go_wp2_with fail
  clear yk1_0 yk1_1 yk1_2 yk1_3
  refine (laws_markIntS.calls kX4 (Iv w5.heap.size w6.heap.size) _ (histA l0 a1_0 a1_1 a1_2 a1_3).1 1 _ _ w _ (by repeat (first | (with_reducible first | exact HB11.out | apply below_alloc | apply pw_below_drewN | apply below_drew1) | exact HB11.out)) (by (with_reducible repeat (first | apply Kd.R_alloc | apply Kd.R_drewN | apply Kd.R_drew)); exact HOg0.out) X4.out).mono ?_
  rintro e w12 ⟨rfl, ho, hb, hk⟩
  have n_ := am_ (blk_kept (blk_below HK1.out (by repeat (first | (with_reducible first | exact Below.refl _ _ | apply below_alloc | apply pw_below_drewN | apply below_drew1) | exact Below.refl _ _))) hk (fun h2_ => by have c_ := h2_.1; have d_ := h2_.2; have b_ := SZB.out; have SZ1_ := SZ1.out; have SZ2_ := SZ2.out; have SZ3_ := SZ3.out; have SZ4_ := SZ4.out; have SZ5_ := SZ5.out; have SZ6_ := SZ6.out; have SZ7_ := SZ7.out; have SZ8_ := SZ8.out; have SZ9_ := SZ9.out; have SZ10_ := SZ10.out; have SZ11_ := SZ11.out; omega)); clear HK1; have HK1 := n_; clear n_
  have n_ := am_ (Kd.R_kept (by (with_reducible repeat (first | apply Kd.R_alloc | apply Kd.R_drewN | apply Kd.R_drew)); exact HOw0.out) hk (fun k h1_ h2_ => by have a_ := h1_.1; have b_ := h1_.2; have c_ := h2_.1; have d_ := h2_.2; have SZ1_ := SZ1.out; have SZ2_ := SZ2.out; have SZ3_ := SZ3.out; have SZ4_ := SZ4.out; have SZ5_ := SZ5.out; have SZ6_ := SZ6.out; have SZ7_ := SZ7.out; have SZ8_ := SZ8.out; have SZ9_ := SZ9.out; have SZ10_ := SZ10.out; have SZ11_ := SZ11.out; omega)); clear HOw0; have HOw0 := n_; clear n_
  have n_ := am_ (Kd.R_kept (by (with_reducible repeat (first | apply Kd.R_alloc | apply Kd.R_drewN | apply Kd.R_drew)); exact HOx0.out) hk (fun k h1_ h2_ => by have a_ := h1_.1; have b_ := h1_.2; have c_ := h2_.1; have d_ := h2_.2; have SZ1_ := SZ1.out; have SZ2_ := SZ2.out; have SZ3_ := SZ3.out; have SZ4_ := SZ4.out; have SZ5_ := SZ5.out; have SZ6_ := SZ6.out; have SZ7_ := SZ7.out; have SZ8_ := SZ8.out; have SZ9_ := SZ9.out; have SZ10_ := SZ10.out; have SZ11_ := SZ11.out; omega)); clear HOx0; have HOx0 := n_; clear n_
  have HB12 := am_ hb
  have SZ12 := am_ (show w11.heap.size ≤ w12.heap.size from hk.1)
  have n_ := am_ (R_flat flat_int ho HOg0.out.1); clear HOg0; have HOg0 := n_; clear n_
  clear ho hb hk
  go_wp2_with fail
  refine calls_of_args (args' := #[.slice Arg0 UX4.length crg0, .int .i64 1]) (by rw [VX4.out]) ?_
  refine (laws_heldIntS.calls kX5 _ _ UX4 1 _ _ (by repeat (first | exact (Kd.R_reads' HOg0.out).2.2 | (with_reducible refine Kd.C_alloc ?_ _) | (with_reducible refine Kd.C_drewN ?_ _) | (with_reducible refine Kd.C_drew ?_))) (by rw [VX4.out]; exact (Kd.R_reads' HOg0.out).2.1) X5.out).mono ?_
  rintro e w13 ⟨rfl, hb0⟩
  have hb := db_ hb0
  clear hb0
  have n_ := am_ (blk_below (blk_below HK1.out (by repeat (first | (with_reducible first | exact Below.refl _ _ | apply below_alloc | apply pw_below_drewN | apply below_drew1) | exact Below.refl _ _))) hb); clear HK1; have HK1 := n_; clear n_
  have n_ := am_ (Kd.R_below (by (with_reducible repeat (first | apply Kd.R_alloc | apply Kd.R_drewN | apply Kd.R_drew)); exact HOw0.out) hb); clear HOw0; have HOw0 := n_; clear n_
  have n_ := am_ (Kd.R_below (by (with_reducible repeat (first | apply Kd.R_alloc | apply Kd.R_drewN | apply Kd.R_drew)); exact HOx0.out) hb); clear HOx0; have HOx0 := n_; clear n_
  have n_ := am_ (Kd.R_below (by (with_reducible repeat (first | apply Kd.R_alloc | apply Kd.R_drewN | apply Kd.R_drew)); exact HOg0.out) hb); clear HOg0; have HOg0 := n_; clear n_
  have HB13 := am_ (below_step (by repeat (first | (with_reducible first | exact HB12.out | apply below_alloc | apply pw_below_drewN | apply below_drew1) | exact HB12.out)) hb)
  have SZ13 := am_ (show w12.heap.size ≤ w13.heap.size from below_size (below_step (by repeat (first | (with_reducible first | exact Below.refl _ _ | apply below_alloc | apply pw_below_drewN | apply below_drew1) | exact Below.refl _ _)) hb))
  clear hb
  go_wp2_with fail
  go_region_held3 (fun W_ => W_.cell? ⟨w.heap.size, 0, none⟩ = some (.int .i64 a1_0) ∧ W_.cell? ⟨w.heap.size, 1, none⟩ = some (.int .i64 a1_1) ∧ W_.cell? ⟨w.heap.size, 2, none⟩ = some (.int .i64 a1_2) ∧ W_.cell? ⟨w.heap.size, 3, none⟩ = some (.int .i64 a1_3)) (first | exact ⟨(blk_cell HK1.out 0).trans rfl, (blk_cell HK1.out 1).trans rfl, (blk_cell HK1.out 2).trans rfl, (blk_cell HK1.out 3).trans rfl⟩ | go_keep) (first
    | (go_at_call 27; refine (laws_toIntS.calls kX0 _ _ l0 _ _ (by repeat (first | exact (Kd.C_below HR0.out HB13.out) | (with_reducible refine Kd.C_alloc ?_ _) | (with_reducible refine Kd.C_drewN ?_ _) | (with_reducible refine Kd.C_drew ?_))) HC0.out X0.out).mono ?_; rintro e w14 ⟨v, rfl, ho, hb⟩; have n_ := am_ (blk_below (blk_below HK1.out (by repeat (first | (with_reducible first | exact Below.refl _ _ | apply below_alloc | apply pw_below_drewN | apply below_drew1) | exact Below.refl _ _))) hb); clear HK1; have HK1 := n_; clear n_; have n_ := am_ (Kd.R_below (by (with_reducible repeat (first | apply Kd.R_alloc | apply Kd.R_drewN | apply Kd.R_drew)); exact HOw0.out) hb); clear HOw0; have HOw0 := n_; clear n_; have n_ := am_ (Kd.R_below (by (with_reducible repeat (first | apply Kd.R_alloc | apply Kd.R_drewN | apply Kd.R_drew)); exact HOx0.out) hb); clear HOx0; have HOx0 := n_; clear n_; have n_ := am_ (Kd.R_below (by (with_reducible repeat (first | apply Kd.R_alloc | apply Kd.R_drewN | apply Kd.R_drew)); exact HOg0.out) hb); clear HOg0; have HOg0 := n_; clear n_; have HB14 := am_ (below_step (by repeat (first | (with_reducible first | exact HB13.out | apply below_alloc | apply pw_below_drewN | apply below_drew1) | exact HB13.out)) hb); have SZ14 := am_ (show w13.heap.size ≤ w14.heap.size from below_size (below_step (by repeat (first | (with_reducible first | exact Below.refl _ _ | apply below_alloc | apply pw_below_drewN | apply below_drew1) | exact Below.refl _ _)) hb)); have HOt3 := am_ (R_ivw (a := w13.heap.size) (b := w.heap.size) ho (below_size (by repeat (first | (with_reducible first | exact Below.refl _ _ | apply below_alloc | apply pw_below_drewN | apply below_drew1) | exact Below.refl _ _))) (below_size (by repeat (first | (with_reducible first | exact HB13.out | apply below_alloc | apply pw_below_drewN | apply below_drew1) | exact HB13.out)))); obtain ⟨Art3, crt3, ert3⟩ := Kd.R_slice HOt3.out; subst ert3; clear ho hb)
    | (go_at_call 15; refine (laws_toMarginTerms.calls a1_0 a1_1 a1_2 a1_3 a1_0 a1_1 a1_2 a1_3 _ rfl).mono ?_; rintro e w15 ⟨rfl, hb⟩; have n_ := am_ (blk_below (blk_below HK1.out (by repeat (first | (with_reducible first | exact Below.refl _ _ | apply below_alloc | apply pw_below_drewN | apply below_drew1) | exact Below.refl _ _))) hb); clear HK1; have HK1 := n_; clear n_; have n_ := am_ (Kd.R_below (by (with_reducible repeat (first | apply Kd.R_alloc | apply Kd.R_drewN | apply Kd.R_drew)); exact HOw0.out) hb); clear HOw0; have HOw0 := n_; clear n_; have n_ := am_ (Kd.R_below (by (with_reducible repeat (first | apply Kd.R_alloc | apply Kd.R_drewN | apply Kd.R_drew)); exact HOx0.out) hb); clear HOx0; have HOx0 := n_; clear n_; have n_ := am_ (Kd.R_below (by (with_reducible repeat (first | apply Kd.R_alloc | apply Kd.R_drewN | apply Kd.R_drew)); exact HOg0.out) hb); clear HOg0; have HOg0 := n_; clear n_; have n_ := am_ (Kd.R_below (by (with_reducible repeat (first | apply Kd.R_alloc | apply Kd.R_drewN | apply Kd.R_drew)); exact HOt3.out) hb); clear HOt3; have HOt3 := n_; clear n_; have HB15 := am_ (below_step (by repeat (first | (with_reducible first | exact HB14.out | apply below_alloc | apply pw_below_drewN | apply below_drew1) | exact HB14.out)) hb); have SZ15 := am_ (show w14.heap.size ≤ w15.heap.size from below_size (below_step (by repeat (first | (with_reducible first | exact Below.refl _ _ | apply below_alloc | apply pw_below_drewN | apply below_drew1) | exact Below.refl _ _)) hb)); clear hb)
    | (go_at_call 40; refine (impl_c _ _ l0 a1_0 a1_1 a1_2 a1_3 _ (by repeat (first | exact (Kd.R_reads' HOt3.out).2.2 | (with_reducible refine Kd.C_alloc ?_ _) | (with_reducible refine Kd.C_drewN ?_ _) | (with_reducible refine Kd.C_drew ?_))) (Kd.R_reads' HOt3.out).2.1 (fun hp => R_head HOt3.out hp) hv0 ).mono ?_; rintro e w16 ⟨v, rfl, ho, hb⟩; have n_ := am_ (blk_below (blk_below HK1.out (by repeat (first | (with_reducible first | exact Below.refl _ _ | apply below_alloc | apply pw_below_drewN | apply below_drew1) | exact Below.refl _ _))) hb); clear HK1; have HK1 := n_; clear n_; have n_ := am_ (Kd.R_below (by (with_reducible repeat (first | apply Kd.R_alloc | apply Kd.R_drewN | apply Kd.R_drew)); exact HOw0.out) hb); clear HOw0; have HOw0 := n_; clear n_; have n_ := am_ (Kd.R_below (by (with_reducible repeat (first | apply Kd.R_alloc | apply Kd.R_drewN | apply Kd.R_drew)); exact HOx0.out) hb); clear HOx0; have HOx0 := n_; clear n_; have n_ := am_ (Kd.R_below (by (with_reducible repeat (first | apply Kd.R_alloc | apply Kd.R_drewN | apply Kd.R_drew)); exact HOg0.out) hb); clear HOg0; have HOg0 := n_; clear n_; have n_ := am_ (Kd.R_below (by (with_reducible repeat (first | apply Kd.R_alloc | apply Kd.R_drewN | apply Kd.R_drew)); exact HOt3.out) hb); clear HOt3; have HOt3 := n_; clear n_; have HB16 := am_ (below_step (by repeat (first | (with_reducible first | exact HB15.out | apply below_alloc | apply pw_below_drewN | apply below_drew1) | exact HB15.out)) hb); have SZ16 := am_ (show w15.heap.size ≤ w16.heap.size from below_size (below_step (by repeat (first | (with_reducible first | exact Below.refl _ _ | apply below_alloc | apply pw_below_drewN | apply below_drew1) | exact Below.refl _ _)) hb)); have HOh0 := am_ (R_ivw (a := w15.heap.size) (b := w.heap.size) ho (below_size (by repeat (first | (with_reducible first | exact Below.refl _ _ | apply below_alloc | apply pw_below_drewN | apply below_drew1) | exact Below.refl _ _))) (below_size (by repeat (first | (with_reducible first | exact HB15.out | apply below_alloc | apply pw_below_drewN | apply below_drew1) | exact HB15.out)))); obtain ⟨Arh0, crh0, erh0⟩ := Kd.R_slice HOh0.out; subst erh0; clear ho hb))
  have yk1_0 : w16.cell? ⟨w.heap.size, 0, none⟩ = some (.int .i64 a1_0) := (blk_cell HK1.out 0).trans rfl
  have yk1_1 : w16.cell? ⟨w.heap.size, 1, none⟩ = some (.int .i64 a1_1) := (blk_cell HK1.out 1).trans rfl
  have yk1_2 : w16.cell? ⟨w.heap.size, 2, none⟩ = some (.int .i64 a1_2) := (blk_cell HK1.out 2).trans rfl
  have yk1_3 : w16.cell? ⟨w.heap.size, 3, none⟩ = some (.int .i64 a1_3) := (blk_cell HK1.out 3).trans rfl
  go_wp2_with fail
  clear yk1_0 yk1_1 yk1_2 yk1_3
  refine (laws_eqIntS.calls kX1 _ _ (histA l0 a1_0 a1_1 a1_2 a1_3).1 _ _ (histA l0 a1_0 a1_1 a1_2 a1_3).1 true _ (by repeat (first | exact (Kd.R_reads' HOh0.out).2.2 | (with_reducible refine Kd.C_alloc ?_ _) | (with_reducible refine Kd.C_drewN ?_ _) | (with_reducible refine Kd.C_drew ?_))) (Kd.R_reads' HOh0.out).2.1 (by repeat (first | exact (Kd.R_reads' HOw0.out).2.2 | (with_reducible refine Kd.C_alloc ?_ _) | (with_reducible refine Kd.C_drewN ?_ _) | (with_reducible refine Kd.C_drew ?_))) (Kd.R_reads' HOw0.out).2.1 X1.out).mono ?_
  rintro e w17 ⟨rfl, hb0⟩
  have hb := db_ hb0
  clear hb0
  have n_ := am_ (blk_below (blk_below HK1.out (by repeat (first | (with_reducible first | exact Below.refl _ _ | apply below_alloc | apply pw_below_drewN | apply below_drew1) | exact Below.refl _ _))) hb); clear HK1; have HK1 := n_; clear n_
  have n_ := am_ (Kd.R_below (by (with_reducible repeat (first | apply Kd.R_alloc | apply Kd.R_drewN | apply Kd.R_drew)); exact HOw0.out) hb); clear HOw0; have HOw0 := n_; clear n_
  have n_ := am_ (Kd.R_below (by (with_reducible repeat (first | apply Kd.R_alloc | apply Kd.R_drewN | apply Kd.R_drew)); exact HOx0.out) hb); clear HOx0; have HOx0 := n_; clear n_
  have n_ := am_ (Kd.R_below (by (with_reducible repeat (first | apply Kd.R_alloc | apply Kd.R_drewN | apply Kd.R_drew)); exact HOg0.out) hb); clear HOg0; have HOg0 := n_; clear n_
  have n_ := am_ (Kd.R_below (by (with_reducible repeat (first | apply Kd.R_alloc | apply Kd.R_drewN | apply Kd.R_drew)); exact HOh0.out) hb); clear HOh0; have HOh0 := n_; clear n_
  have HB17 := am_ (below_step (by repeat (first | (with_reducible first | exact HB16.out | apply below_alloc | apply pw_below_drewN | apply below_drew1) | exact HB16.out)) hb)
  have SZ17 := am_ (show w16.heap.size ≤ w17.heap.size from below_size (below_step (by repeat (first | (with_reducible first | exact Below.refl _ _ | apply below_alloc | apply pw_below_drewN | apply below_drew1) | exact Below.refl _ _)) hb))
  clear hb
  go_wp2_with fail
  refine calls_of_args (args' := #[.slice Arg0 UX4.length crg0, .int .i64 1]) (by rw [VX4.out]) ?_
  refine (laws_heldIntS.calls kX5 _ _ UX4 1 _ _ (by repeat (first | exact (Kd.R_reads' HOg0.out).2.2 | (with_reducible refine Kd.C_alloc ?_ _) | (with_reducible refine Kd.C_drewN ?_ _) | (with_reducible refine Kd.C_drew ?_))) (by rw [VX4.out]; exact (Kd.R_reads' HOg0.out).2.1) X5.out).mono ?_
  rintro e w18 ⟨rfl, hb0⟩
  have hb := db_ hb0
  clear hb0
  have n_ := am_ (blk_below (blk_below HK1.out (by repeat (first | (with_reducible first | exact Below.refl _ _ | apply below_alloc | apply pw_below_drewN | apply below_drew1) | exact Below.refl _ _))) hb); clear HK1; have HK1 := n_; clear n_
  have n_ := am_ (Kd.R_below (by (with_reducible repeat (first | apply Kd.R_alloc | apply Kd.R_drewN | apply Kd.R_drew)); exact HOw0.out) hb); clear HOw0; have HOw0 := n_; clear n_
  have n_ := am_ (Kd.R_below (by (with_reducible repeat (first | apply Kd.R_alloc | apply Kd.R_drewN | apply Kd.R_drew)); exact HOx0.out) hb); clear HOx0; have HOx0 := n_; clear n_
  have n_ := am_ (Kd.R_below (by (with_reducible repeat (first | apply Kd.R_alloc | apply Kd.R_drewN | apply Kd.R_drew)); exact HOg0.out) hb); clear HOg0; have HOg0 := n_; clear n_
  have n_ := am_ (Kd.R_below (by (with_reducible repeat (first | apply Kd.R_alloc | apply Kd.R_drewN | apply Kd.R_drew)); exact HOh0.out) hb); clear HOh0; have HOh0 := n_; clear n_
  have HB18 := am_ (below_step (by repeat (first | (with_reducible first | exact HB17.out | apply below_alloc | apply pw_below_drewN | apply below_drew1) | exact HB17.out)) hb)
  have SZ18 := am_ (show w17.heap.size ≤ w18.heap.size from below_size (below_step (by repeat (first | (with_reducible first | exact Below.refl _ _ | apply below_alloc | apply pw_below_drewN | apply below_drew1) | exact Below.refl _ _)) hb))
  clear hb
  go_wp2
  go_ret
  exact ⟨rfl, (by repeat (first | (with_reducible first | exact HB18.out | apply below_alloc | apply pw_below_drewN | apply below_drew1) | exact HB18.out))⟩
end Go.Proofs.Ytiaakolalhdelaa.O
