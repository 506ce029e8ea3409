/- Walks of our own, a part of those for the law FnMargin: each function's contract in plain Lean. No condition beyond the bounds that each contract names. -/
import Derived.Test.YtiaakolalhdelaaPureFnMargin
import Derived.Shelf.SlicesE.IndexFunc
import Derived.Shelf.SlLaysH
namespace Go.Proofs.Ytiaakolalhdelaa.O
open Go.RowKit Go.Proofs.YtiaakolalhdelaaW.PrintWords Go.Proofs.YtiaakolalhdelaaW.PrintLast Go.Proofs.YtiaakolalhdelaaW.PrintMore Go.Proofs.Ytiaakolalhdelaa.PL17M Go.Proofs.Ytiaakolalhdelaa.EvKit Go.Proofs.Ytiaakolalhdelaa.Pure
set_option linter.unusedVariables false
set_option linter.unusedSimpArgs false
attribute [local go_sem] max2_int min2_int max_two min_two max_three min_three max_four min_four
theorem am_ {p : Prop} (h : p) : Aside0 p := ⟨h⟩
theorem db_ {w w' : World} (h : Drawn0 w w') : Below w.heap.size w w' := Drawn0.below h
/-- A number of rounds at which a printed function answers. -/
theorem roundsOf {α : Type} {g : Nat → Option α} {r : α} (h : Ev g r) : ∃ k, g k = some r := Ev.rounds h
theorem cellsOf {w : World} {b o : Nat} {xs : List Int} (h : (Kd.int .i64).C w (some ⟨b, o, none⟩) xs.length xs) : ∀ j, j < xs.length → w.cell? ⟨b, o + j, none⟩ = some (.int .i64 xs[j]!) := by
  intro j hj
  obtain ⟨ad, e, hc⟩ := Kd.at_int h (j : Int) (by omega) (by omega)
  injection e with e
  subst e
  rw [add_at] at hc
  rw [Int.toNat_natCast] at hc
  rw [hc, rd, Int.toNat_natCast, List.getD_eq_getElem?_getD, List.getElem?_eq_getElem hj, List.getElem!_eq_getElem?_getD, List.getElem?_eq_getElem hj]
  rfl
/-- Between two numbers. -/
def Iv (a b : Nat) (k : Nat) : Prop := a ≤ k ∧ k < b
theorem R_iv {α : Type} {d : Kd α} {e base : Nat} {ok : Nat → Prop} {w : World} {v : Value} {xs : List α} (h : d.R e w base ok v xs) : d.R e w base (Iv base w.heap.size) v xs := Kd.R_mono (Kd.R_bound h) (fun _ hk => ⟨hk.2.1, hk.2.2.1⟩)
/-- Where a row of one's own that is not empty begins. -/
theorem R_head {α : Type} {d : Kd α} {e base : Nat} {ok : Nat → Prop} {w : World} {A : Option Addr} {n c : Nat} {xs : List α} (h : d.R e w base ok (.slice A n c) xs) (hp : 0 < xs.length) : ∃ b, A = some ⟨b, 0, none⟩ := by
  obtain ⟨g, cap, e1, _⟩ := Kd.R_form h hp
  injection e1 with e1
  exact ⟨g, e1⟩
theorem R_ivw {α : Type} {d : Kd α} {e base a b : Nat} {ok : Nat → Prop} {w : World} {v : Value} {xs : List α} (h : d.R e w base ok v xs) (ha : a ≤ base) (hb : b ≤ base) : d.R e w b (Iv a w.heap.size) v xs := Kd.R_lower (Kd.R_mono (Kd.R_bound h) (fun _ hk => ⟨Nat.le_trans ha hk.2.1, hk.2.2.1⟩)) hb
/-- A row whose elements hold no rows lies in its own block alone. -/
theorem R_flat {α : Type} {d : Kd α} {e base : Nat} {ok ok' : Nat → Prop} {w : World} {v : Value} {xs : List α} (hf : ∀ (w : World) (b : Nat) (p q : Nat → Prop) x cs, d.M w b p x cs → d.M w b q x cs) (h : d.R e w base ok v xs) (h0 : ∀ k, v.ownBlock = some k → ok' k) : d.R e w base ok' v xs := ⟨h0, h.2.imp_ (fun _ _ hp => hf _ _ _ _ _ _ hp)⟩
theorem flat_int (w : World) (b : Nat) (p q : Nat → Prop) (x : Int) (cs : List Value) (h : (Kd.int .i64).M w b p x cs) : (Kd.int .i64).M w b q x cs := h
theorem cellsOfD {w : World} {b o m : Nat} {xs : List Int} (h : (Kd.int .i64).C w (some ⟨b, o, none⟩) m xs) : ∀ j, j < xs.length → w.cell? ⟨b, o + j, none⟩ = some (.int .i64 (xs.getD j 0)) := by
  intro j hj
  have hl := Kd.C_len h
  obtain ⟨ad, e, hc⟩ := Kd.at_int h (j : Int) (by omega) (by omega)
  injection e with e
  subst e
  rw [add_at, Int.toNat_natCast] at hc
  exact hc
theorem R_C {α : Type} {d : Kd α} {e base : Nat} {ok : Nat → Prop} {w : World} {A : Option Addr} {n c : Nat} {xs : List α} (h : d.R e w base ok (.slice A n c) xs) : d.C w A n xs := by
  obtain ⟨rfl, _, hc⟩ := Kd.R_reads' h
  exact hc
theorem R_cap {α : Type} {d : Kd α} {e base : Nat} {ok : Nat → Prop} {w : World} {A : Option Addr} {n c : Nat} {xs : List α} (h : d.R e w base ok (.slice A n c) xs) : n ≤ c := (Kd.R_reads' h).2.1
theorem R_same {α : Type} {d : Kd α} {e base : Nat} {ok : Nat → Prop} {w w1 : World} {v : Value} {xs : List α} (h : d.R e w base ok v xs) (hg : w.grownBy w1 none) : d.R e w1 base ok v xs := Kd.R_grown h hg (fun _ _ e => by cases e)
theorem R_block {α : Type} {d : Kd α} {e base g n c : Nat} {ok : Nat → Prop} {w : World} {xs : List α} (h : d.R e w base ok (.slice (some ⟨g, 0, none⟩) n c) xs) (hp : 0 < n) : ∃ cells, w.heap[g]? = some (.cells cells e (0, 0)) := by
  obtain ⟨e1, _, _⟩ := Kd.R_reads' h
  obtain ⟨g', cap, e2, _, _, cells, h3⟩ := Kd.R_form h (by omega)
  injection e2 with e2 _ _
  injection e2 with e2
  injection e2 with e2
  subst e2
  exact ⟨cells, h3⟩
theorem ba_ {w W : World} (h : Below w.heap.size w W) (o : Obj) : Below w.heap.size w (W.alloc o) := below_alloc h o
theorem bn_ {B : Nat} {w W : World} (h : Below B w W) (n : Nat) : Below B w (W.drewN n) := pw_below_drewN h n
theorem bd_ {B : Nat} {w W : World} (h : Below B w W) : Below B w W.drew := below_drew1 h
theorem ca_ {α : Type} {d : Kd α} {w : World} {xs : List α} {A : Option Addr} {n : Nat} (h : d.C w A n xs) (o : Obj) : d.C (w.alloc o) A n xs := Kd.C_alloc h o
theorem cn_ {α : Type} {d : Kd α} {w : World} {xs : List α} {A : Option Addr} {n : Nat} (h : d.C w A n xs) (m : Nat) : d.C (w.drewN m) A n xs := Kd.C_drewN h m
theorem cd_ {α : Type} {d : Kd α} {w : World} {xs : List α} {A : Option Addr} {n : Nat} (h : d.C w A n xs) : d.C w.drew A n xs := Kd.C_drew h
theorem ra_ {α : Type} {d : Kd α} {w : World} {xs : List α} {e : TypeId} {base : Nat} {ok : Nat → Prop} {v : Value} (h : d.R e w base ok v xs) (o : Obj) : d.R e (w.alloc o) base ok v xs := Kd.R_alloc h o
theorem rn_ {α : Type} {d : Kd α} {w : World} {xs : List α} {e : TypeId} {base : Nat} {ok : Nat → Prop} {v : Value} (h : d.R e w base ok v xs) (m : Nat) : d.R e (w.drewN m) base ok v xs := Kd.R_drewN h m
theorem rd_ {α : Type} {d : Kd α} {w : World} {xs : List α} {e : TypeId} {base : Nat} {ok : Nat → Prop} {v : Value} (h : d.R e w base ok v xs) : d.R e w.drew base ok v xs := Kd.R_drew h
theorem ka_ {w : World} {g : Nat} {o : Obj} (h : w.heap[g]? = some o) (o' : Obj) : (w.alloc o').heap[g]? = some o := blk_alloc h o'
theorem kd_ {w : World} {g : Nat} {o : Obj} (h : w.heap[g]? = some o) : w.drew.heap[g]? = some o := blk_drew h
theorem kn_ {w : World} {g : Nat} {o : Obj} (h : w.heap[g]? = some o) (n : Nat) : (w.drewN n).heap[g]? = some o := blk_drewN h n
theorem kf_ {w : World} {g : Nat} {t : TypeId} {cs : Array Value} (h : w.heap[g]? = some (.cells cs t (0, 0))) {p : Addr} (hp : g ≠ p.block) (u : Value) : (w.setCell p u).heap[g]? = some (.cells cs t (0, 0)) := blk_far h hp u
theorem infoI : (Try.prog.info? 3).map (fun i => (i.zero, i.size, i.bytes)) = some (some (.int .i64 0), 1, 8) := by kernel_rfl
theorem own_ne {α : Type} {k : Kd α} {e base : Nat} {w : World} {ok : Nat → Prop} {v : Value} {xs : List α} (h : k.R e w base ok v xs) {g t : Nat} {cs : Array Value} (hb : w.heap[g]? = some (.cells cs t (0, 0))) (ht : e ≠ t) : some g ≠ v.ownBlock := by
  intro he
  obtain ⟨inner, ho⟩ := Kd.R_own h
  obtain ⟨cells, hc⟩ := own_typed ho g he.symm
  rw [hb] at hc
  injection hc with h1
  injection h1 with _ h2
  exact ht h2.symm
set_option maxHeartbeats 8000000 in
set_option maxRecDepth 100000 in
theorem callS_c (e h i t m r : Int) (w : World) :
    Calls Try.prog 22 #[.int .i64 e, .int .i64 h, .agg #[.int .i64 i, .int .i64 t, .int .i64 m, .int .i64 r]] w fun e2 w' => e2 = .returned (.tuple #[.int .i64 (callA e h i t m r).1, .bool (callA e h i t m r).2]) ∧ Below w.heap.size w w' := by
  have HB := am_ (Below.refl w.heap.size w)
  have hq := specRequired_eq e i t m r
  have hin := l1In_eq h 0 1000000000
  by_cases c : reqOk e i t m r
  · have hbr := max0_bd (e + i - t)
    have hok := c.2.1
    obtain ⟨⟨i0, i1⟩, ⟨t0, t1⟩, ⟨m0, m1⟩, ⟨r0, r1⟩⟩ := hok
    have hc2 := c.2.2
    rw [reqA_yes c] at hq
    obtain ⟨RQ, hRQ⟩ : ∃ q, q = max0 (e + i - t) := ⟨_, rfl⟩
    have hA : callA e h i t m r = if 0 ≤ h ∧ h ≤ 1000000000 then callEnd (callN (RQ - h) r) m else (0, false) := by
      unfold callA
      by_cases ch : 0 ≤ h ∧ h ≤ 1000000000
      · rw [if_pos ⟨c, ch⟩, if_pos ch, hRQ]
      · rw [if_neg (fun g => ch g.2), if_neg ch]
    rw [← hRQ] at hq hbr
    have rq0 : 0 ≤ RQ := hbr.1
    have rq1 : RQ ≤ 1000000000 := hbr.2.1 hc2
    rw [hA]
    have HQ := am_ hq
    clear hq hbr hc2 hA hRQ c
    by_cases ch : 0 ≤ h ∧ h ≤ 1000000000
    · rw [if_pos ch]
      rw [decide_eq_true ch] at hin
      have HIN := am_ hin
      have h0 := ch.1
      have h1 := ch.2
      clear hin ch
      obtain ⟨d, hd_⟩ : ∃ d, RQ = d + h := ⟨RQ - h, by omega⟩
      subst hd_
      rw [show d + h - h = d from by omega]
      have hwd : IntKind.i64.wrap (d + h - h) = d := by rw [show d + h - h = d from by omega]; exact IntWalk.i64_in _ (by omega)
      obtain ⟨q1, n1, q2, n2, ⟨a1, a2, a3, a4, a5, a6⟩, hneg, hc1, hc2, hc3⟩ := call_parts d m r (by omega) ⟨r0, r1⟩
      have hrz : ¬ (r = 0) := by omega
      have hrz2 : ((r : Int) == 0) = false := by rw [beq_eq_false_iff_ne]; omega
      have hw1 : IntKind.i64.wrap (q1 * r) = n1 := by rw [a2]; exact IntWalk.i64_in _ (by omega)
      have hw1' : IntKind.i64.wrap q1 = q1 := IntWalk.i64_in _ (by omega)
      by_cases q : d < 0
      · have cd : decide (d < 0) = true := decide_eq_true q
        obtain ⟨b1, b2, b3, b4, b5, b6⟩ := hneg (by omega)
        have hN := hc1 (by omega)
        have hw2 : IntKind.i64.wrap (q2 * r) = n2 := by rw [b2]; exact IntWalk.i64_in _ (by omega)
        have hw2' : IntKind.i64.wrap q2 = q2 := IntWalk.i64_in _ (by omega)
        obtain ⟨N, hNe⟩ : ∃ N, N = -n2 := ⟨_, rfl⟩
        have hw3 : IntKind.i64.wrap (-n2) = N := by rw [hNe]; exact IntWalk.i64_in _ (by omega)
        rw [hN, ← hNe]
        have hNb : -1000000000 ≤ N ∧ N ≤ 0 := by omega
        clear hN hNe b2 b3 b4
        clear hneg hc1 hc2 hc3 a2 a3 a4 q
        have hm := l1Most_eq N (by omega)
        obtain ⟨M, hM⟩ : ∃ M, M = absI N := ⟨_, rfl⟩
        have HM := am_ (show spec_l1Most.f N (-N) = some M from by rw [hM]; exact hm)
        have hE : callEnd N m = if M < m then (0, true) else if -1000000000 ≤ N ∧ N ≤ 1000000000 then (N, true) else (0, false) := by rw [hM]; rfl
        rw [hE]
        clear hm hM hE
        have hw4 : IntKind.i64.wrap (-N) = -N := IntWalk.i64_in _ (by omega)
        by_cases q3 : M < m
        · rw [if_pos q3]
          have cm : decide (M < m) = true := decide_eq_true q3
          clear q3
          have ha := l2Amount_eq 0
          rw [decide_eq_true (by omega)] at ha
          have HA := am_ ha
          clear ha
          go_enter Try.func22, Try.ntmps22
          go_wp2_with ((((with_reducible refine gate_dst (N := 5) rfl ?_); refine box_event ?hg (N := 5) ?hd (cs := #[.int .i64 i, .int .i64 t, .int .i64 m, .int .i64 r]) (t := 26) ?hr ?_; (case hd => rfl); (case hg => rfl); (case hr => first | (go_simp; done) | (go_simp; rfl))); intro g1 hg w_g1 hbox hb; have n_ := am_ (below_step (by repeat first | (with_reducible first | exact HB.out | apply ba_ | apply bn_ | apply bd_) | exact HB.out) hb); have BKg1 := am_ hbox; have GEg1 := am_ (show w.heap.size ≤ g1 from by rw [hg]; exact below_size (by repeat first | (with_reducible first | exact HB.out | apply ba_ | apply bn_ | apply bd_) | exact HB.out)); clear HB ; have HB := n_; clear n_ hb hbox hg); have yg1_0 : w_g1.cell? ⟨g1, 0, none⟩ = some (.int .i64 i) := (blk_cell BKg1.out 0).trans rfl; have fg1_0 := blk_frozen BKg1.out 0; have yg1_1 : w_g1.cell? ⟨g1, 1, none⟩ = some (.int .i64 t) := (blk_cell BKg1.out 1).trans rfl; have fg1_1 := blk_frozen BKg1.out 1; have yg1_2 : w_g1.cell? ⟨g1, 2, none⟩ = some (.int .i64 m) := (blk_cell BKg1.out 2).trans rfl; have fg1_2 := blk_frozen BKg1.out 2; have yg1_3 : w_g1.cell? ⟨g1, 3, none⟩ = some (.int .i64 r) := (blk_cell BKg1.out 3).trans rfl; have fg1_3 := blk_frozen BKg1.out 3)
          clear yg1_0 fg1_0 yg1_1 fg1_1 yg1_2 fg1_2 yg1_3 fg1_3
          refine (spec_RequiredAmount.calls e i t m r _ _ _ HQ.out).mono ?_
          rintro e2 w1 ⟨rfl, hb⟩
          replace BKg1 := am_ (blk_below (blk_below BKg1.out (by repeat first | exact Below.refl _ _ | apply ba_ | apply bn_ | apply bd_)) hb); replace HB := am_ (below_step (by repeat first | (with_reducible first | exact HB.out | apply ba_ | apply bn_ | apply bd_) | exact HB.out) hb); clear hb
          have yg1_0 : w1.cell? ⟨g1, 0, none⟩ = some (.int .i64 i) := (blk_cell BKg1.out 0).trans rfl; have fg1_0 := blk_frozen BKg1.out 0; have yg1_1 : w1.cell? ⟨g1, 1, none⟩ = some (.int .i64 t) := (blk_cell BKg1.out 1).trans rfl; have fg1_1 := blk_frozen BKg1.out 1; have yg1_2 : w1.cell? ⟨g1, 2, none⟩ = some (.int .i64 m) := (blk_cell BKg1.out 2).trans rfl; have fg1_2 := blk_frozen BKg1.out 2; have yg1_3 : w1.cell? ⟨g1, 3, none⟩ = some (.int .i64 r) := (blk_cell BKg1.out 3).trans rfl; have fg1_3 := blk_frozen BKg1.out 3
          go_wp2_with fail
          clear yg1_0 fg1_0 yg1_1 fg1_1 yg1_2 fg1_2 yg1_3 fg1_3
          refine (spec_l1In.calls h 0 1000000000 true _ HIN.out).mono ?_
          rintro e2 w2 ⟨rfl, hb0⟩
          have hb := db_ hb0
          clear hb0
          replace BKg1 := am_ (blk_below (blk_below BKg1.out (by repeat first | exact Below.refl _ _ | apply ba_ | apply bn_ | apply bd_)) hb); replace HB := am_ (below_step (by repeat first | (with_reducible first | exact HB.out | apply ba_ | apply bn_ | apply bd_) | exact HB.out) hb); clear hb
          have yg1_0 : w2.cell? ⟨g1, 0, none⟩ = some (.int .i64 i) := (blk_cell BKg1.out 0).trans rfl; have fg1_0 := blk_frozen BKg1.out 0; have yg1_1 : w2.cell? ⟨g1, 1, none⟩ = some (.int .i64 t) := (blk_cell BKg1.out 1).trans rfl; have fg1_1 := blk_frozen BKg1.out 1; have yg1_2 : w2.cell? ⟨g1, 2, none⟩ = some (.int .i64 m) := (blk_cell BKg1.out 2).trans rfl; have fg1_2 := blk_frozen BKg1.out 2; have yg1_3 : w2.cell? ⟨g1, 3, none⟩ = some (.int .i64 r) := (blk_cell BKg1.out 3).trans rfl; have fg1_3 := blk_frozen BKg1.out 3
          go_wp2_with fail
          go_quiet (fail)
          go_wp2_with fail
          go_quiet (fail)
          go_wp2_with fail
          go_quiet ((go_at_call 57; refine (spec_l1Most.calls N (-N) M _ HM.out).mono ?_; rintro e_ w_ ⟨rfl, ⟨nd, rfl⟩⟩; first | exact ⟨rfl, _, World.drewN_drewN _ _ _⟩ | exact ⟨rfl, _, Eq.trans (World.drewN_drewN _ _ _) (congrArg (World.drewN _) (Nat.add_assoc _ _ _))⟩))
          go_wp2_with fail
          refine (spec_l2Amount.calls 0 true _ HA.out).mono ?_
          rintro e2 w4 ⟨rfl, ⟨nq2, rfl⟩⟩
          go_wp2
          go_ret2
          exact ⟨rfl, (by repeat first | (with_reducible first | exact HB.out | apply ba_ | apply bn_ | apply bd_ | refine below_set ?_ GEg1.out) | exact HB.out)⟩
        · rw [if_neg q3]
          have cm : decide (M < m) = false := decide_eq_false q3
          clear q3
          have ha := l2Amount_eq N
          by_cases q4 : -1000000000 ≤ N ∧ N ≤ 1000000000
          · rw [if_pos q4]
            rw [decide_eq_true q4] at ha
            have HA := am_ ha
            clear ha q4
            go_enter Try.func22, Try.ntmps22
            go_wp2_with ((((with_reducible refine gate_dst (N := 5) rfl ?_); refine box_event ?hg (N := 5) ?hd (cs := #[.int .i64 i, .int .i64 t, .int .i64 m, .int .i64 r]) (t := 26) ?hr ?_; (case hd => rfl); (case hg => rfl); (case hr => first | (go_simp; done) | (go_simp; rfl))); intro g1 hg w_g1 hbox hb; have n_ := am_ (below_step (by repeat first | (with_reducible first | exact HB.out | apply ba_ | apply bn_ | apply bd_) | exact HB.out) hb); have BKg1 := am_ hbox; have GEg1 := am_ (show w.heap.size ≤ g1 from by rw [hg]; exact below_size (by repeat first | (with_reducible first | exact HB.out | apply ba_ | apply bn_ | apply bd_) | exact HB.out)); clear HB ; have HB := n_; clear n_ hb hbox hg); have yg1_0 : w_g1.cell? ⟨g1, 0, none⟩ = some (.int .i64 i) := (blk_cell BKg1.out 0).trans rfl; have fg1_0 := blk_frozen BKg1.out 0; have yg1_1 : w_g1.cell? ⟨g1, 1, none⟩ = some (.int .i64 t) := (blk_cell BKg1.out 1).trans rfl; have fg1_1 := blk_frozen BKg1.out 1; have yg1_2 : w_g1.cell? ⟨g1, 2, none⟩ = some (.int .i64 m) := (blk_cell BKg1.out 2).trans rfl; have fg1_2 := blk_frozen BKg1.out 2; have yg1_3 : w_g1.cell? ⟨g1, 3, none⟩ = some (.int .i64 r) := (blk_cell BKg1.out 3).trans rfl; have fg1_3 := blk_frozen BKg1.out 3)
            clear yg1_0 fg1_0 yg1_1 fg1_1 yg1_2 fg1_2 yg1_3 fg1_3
            refine (spec_RequiredAmount.calls e i t m r _ _ _ HQ.out).mono ?_
            rintro e2 w1 ⟨rfl, hb⟩
            replace BKg1 := am_ (blk_below (blk_below BKg1.out (by repeat first | exact Below.refl _ _ | apply ba_ | apply bn_ | apply bd_)) hb); replace HB := am_ (below_step (by repeat first | (with_reducible first | exact HB.out | apply ba_ | apply bn_ | apply bd_) | exact HB.out) hb); clear hb
            have yg1_0 : w1.cell? ⟨g1, 0, none⟩ = some (.int .i64 i) := (blk_cell BKg1.out 0).trans rfl; have fg1_0 := blk_frozen BKg1.out 0; have yg1_1 : w1.cell? ⟨g1, 1, none⟩ = some (.int .i64 t) := (blk_cell BKg1.out 1).trans rfl; have fg1_1 := blk_frozen BKg1.out 1; have yg1_2 : w1.cell? ⟨g1, 2, none⟩ = some (.int .i64 m) := (blk_cell BKg1.out 2).trans rfl; have fg1_2 := blk_frozen BKg1.out 2; have yg1_3 : w1.cell? ⟨g1, 3, none⟩ = some (.int .i64 r) := (blk_cell BKg1.out 3).trans rfl; have fg1_3 := blk_frozen BKg1.out 3
            go_wp2_with fail
            clear yg1_0 fg1_0 yg1_1 fg1_1 yg1_2 fg1_2 yg1_3 fg1_3
            refine (spec_l1In.calls h 0 1000000000 true _ HIN.out).mono ?_
            rintro e2 w2 ⟨rfl, hb0⟩
            have hb := db_ hb0
            clear hb0
            replace BKg1 := am_ (blk_below (blk_below BKg1.out (by repeat first | exact Below.refl _ _ | apply ba_ | apply bn_ | apply bd_)) hb); replace HB := am_ (below_step (by repeat first | (with_reducible first | exact HB.out | apply ba_ | apply bn_ | apply bd_) | exact HB.out) hb); clear hb
            have yg1_0 : w2.cell? ⟨g1, 0, none⟩ = some (.int .i64 i) := (blk_cell BKg1.out 0).trans rfl; have fg1_0 := blk_frozen BKg1.out 0; have yg1_1 : w2.cell? ⟨g1, 1, none⟩ = some (.int .i64 t) := (blk_cell BKg1.out 1).trans rfl; have fg1_1 := blk_frozen BKg1.out 1; have yg1_2 : w2.cell? ⟨g1, 2, none⟩ = some (.int .i64 m) := (blk_cell BKg1.out 2).trans rfl; have fg1_2 := blk_frozen BKg1.out 2; have yg1_3 : w2.cell? ⟨g1, 3, none⟩ = some (.int .i64 r) := (blk_cell BKg1.out 3).trans rfl; have fg1_3 := blk_frozen BKg1.out 3
            go_wp2_with fail
            go_quiet (fail)
            go_wp2_with fail
            go_quiet (fail)
            go_wp2_with fail
            go_quiet ((go_at_call 57; refine (spec_l1Most.calls N (-N) M _ HM.out).mono ?_; rintro e_ w_ ⟨rfl, ⟨nd, rfl⟩⟩; first | exact ⟨rfl, _, World.drewN_drewN _ _ _⟩ | exact ⟨rfl, _, Eq.trans (World.drewN_drewN _ _ _) (congrArg (World.drewN _) (Nat.add_assoc _ _ _))⟩))
            go_wp2_with fail
            refine (spec_l2Amount.calls N true _ HA.out).mono ?_
            rintro e2 w4 ⟨rfl, ⟨nq2, rfl⟩⟩
            go_wp2
            go_ret2
            exact ⟨rfl, (by repeat first | (with_reducible first | exact HB.out | apply ba_ | apply bn_ | apply bd_ | refine below_set ?_ GEg1.out) | exact HB.out)⟩
          · rw [if_neg q4]
            rw [decide_eq_false q4] at ha
            have HA := am_ ha
            clear ha q4
            go_enter Try.func22, Try.ntmps22
            go_wp2_with ((((with_reducible refine gate_dst (N := 5) rfl ?_); refine box_event ?hg (N := 5) ?hd (cs := #[.int .i64 i, .int .i64 t, .int .i64 m, .int .i64 r]) (t := 26) ?hr ?_; (case hd => rfl); (case hg => rfl); (case hr => first | (go_simp; done) | (go_simp; rfl))); intro g1 hg w_g1 hbox hb; have n_ := am_ (below_step (by repeat first | (with_reducible first | exact HB.out | apply ba_ | apply bn_ | apply bd_) | exact HB.out) hb); have BKg1 := am_ hbox; have GEg1 := am_ (show w.heap.size ≤ g1 from by rw [hg]; exact below_size (by repeat first | (with_reducible first | exact HB.out | apply ba_ | apply bn_ | apply bd_) | exact HB.out)); clear HB ; have HB := n_; clear n_ hb hbox hg); have yg1_0 : w_g1.cell? ⟨g1, 0, none⟩ = some (.int .i64 i) := (blk_cell BKg1.out 0).trans rfl; have fg1_0 := blk_frozen BKg1.out 0; have yg1_1 : w_g1.cell? ⟨g1, 1, none⟩ = some (.int .i64 t) := (blk_cell BKg1.out 1).trans rfl; have fg1_1 := blk_frozen BKg1.out 1; have yg1_2 : w_g1.cell? ⟨g1, 2, none⟩ = some (.int .i64 m) := (blk_cell BKg1.out 2).trans rfl; have fg1_2 := blk_frozen BKg1.out 2; have yg1_3 : w_g1.cell? ⟨g1, 3, none⟩ = some (.int .i64 r) := (blk_cell BKg1.out 3).trans rfl; have fg1_3 := blk_frozen BKg1.out 3)
            clear yg1_0 fg1_0 yg1_1 fg1_1 yg1_2 fg1_2 yg1_3 fg1_3
            refine (spec_RequiredAmount.calls e i t m r _ _ _ HQ.out).mono ?_
            rintro e2 w1 ⟨rfl, hb⟩
            replace BKg1 := am_ (blk_below (blk_below BKg1.out (by repeat first | exact Below.refl _ _ | apply ba_ | apply bn_ | apply bd_)) hb); replace HB := am_ (below_step (by repeat first | (with_reducible first | exact HB.out | apply ba_ | apply bn_ | apply bd_) | exact HB.out) hb); clear hb
            have yg1_0 : w1.cell? ⟨g1, 0, none⟩ = some (.int .i64 i) := (blk_cell BKg1.out 0).trans rfl; have fg1_0 := blk_frozen BKg1.out 0; have yg1_1 : w1.cell? ⟨g1, 1, none⟩ = some (.int .i64 t) := (blk_cell BKg1.out 1).trans rfl; have fg1_1 := blk_frozen BKg1.out 1; have yg1_2 : w1.cell? ⟨g1, 2, none⟩ = some (.int .i64 m) := (blk_cell BKg1.out 2).trans rfl; have fg1_2 := blk_frozen BKg1.out 2; have yg1_3 : w1.cell? ⟨g1, 3, none⟩ = some (.int .i64 r) := (blk_cell BKg1.out 3).trans rfl; have fg1_3 := blk_frozen BKg1.out 3
            go_wp2_with fail
            clear yg1_0 fg1_0 yg1_1 fg1_1 yg1_2 fg1_2 yg1_3 fg1_3
            refine (spec_l1In.calls h 0 1000000000 true _ HIN.out).mono ?_
            rintro e2 w2 ⟨rfl, hb0⟩
            have hb := db_ hb0
            clear hb0
            replace BKg1 := am_ (blk_below (blk_below BKg1.out (by repeat first | exact Below.refl _ _ | apply ba_ | apply bn_ | apply bd_)) hb); replace HB := am_ (below_step (by repeat first | (with_reducible first | exact HB.out | apply ba_ | apply bn_ | apply bd_) | exact HB.out) hb); clear hb
            have yg1_0 : w2.cell? ⟨g1, 0, none⟩ = some (.int .i64 i) := (blk_cell BKg1.out 0).trans rfl; have fg1_0 := blk_frozen BKg1.out 0; have yg1_1 : w2.cell? ⟨g1, 1, none⟩ = some (.int .i64 t) := (blk_cell BKg1.out 1).trans rfl; have fg1_1 := blk_frozen BKg1.out 1; have yg1_2 : w2.cell? ⟨g1, 2, none⟩ = some (.int .i64 m) := (blk_cell BKg1.out 2).trans rfl; have fg1_2 := blk_frozen BKg1.out 2; have yg1_3 : w2.cell? ⟨g1, 3, none⟩ = some (.int .i64 r) := (blk_cell BKg1.out 3).trans rfl; have fg1_3 := blk_frozen BKg1.out 3
            go_wp2_with fail
            go_quiet (fail)
            go_wp2_with fail
            go_quiet (fail)
            go_wp2_with fail
            go_quiet ((go_at_call 57; refine (spec_l1Most.calls N (-N) M _ HM.out).mono ?_; rintro e_ w_ ⟨rfl, ⟨nd, rfl⟩⟩; first | exact ⟨rfl, _, World.drewN_drewN _ _ _⟩ | exact ⟨rfl, _, Eq.trans (World.drewN_drewN _ _ _) (congrArg (World.drewN _) (Nat.add_assoc _ _ _))⟩))
            go_wp2_with fail
            refine (spec_l2Amount.calls N false _ HA.out).mono ?_
            rintro e2 w4 ⟨rfl, ⟨nq2, rfl⟩⟩
            go_wp2
            go_ret2
            exact ⟨rfl, (by repeat first | (with_reducible first | exact HB.out | apply ba_ | apply bn_ | apply bd_ | refine below_set ?_ GEg1.out) | exact HB.out)⟩
      · have cd : decide (d < 0) = false := decide_eq_false q
        obtain ⟨hN, hN0⟩ := hc2 (by omega)
        obtain ⟨N, hNe⟩ : ∃ N, N = n1 := ⟨_, rfl⟩
        rw [hN, ← hNe]
        have hNb : 0 ≤ N ∧ N ≤ 4000000000 := by omega
        subst hNe
        clear hN
        clear hneg hc1 hc2 hc3 a2 a3 a4 q
        have hm := l1Most_eq N (by omega)
        obtain ⟨M, hM⟩ : ∃ M, M = absI N := ⟨_, rfl⟩
        have HM := am_ (show spec_l1Most.f N (-N) = some M from by rw [hM]; exact hm)
        have hE : callEnd N m = if M < m then (0, true) else if -1000000000 ≤ N ∧ N ≤ 1000000000 then (N, true) else (0, false) := by rw [hM]; rfl
        rw [hE]
        clear hm hM hE
        have hw4 : IntKind.i64.wrap (-N) = -N := IntWalk.i64_in _ (by omega)
        by_cases q3 : M < m
        · rw [if_pos q3]
          have cm : decide (M < m) = true := decide_eq_true q3
          clear q3
          have ha := l2Amount_eq 0
          rw [decide_eq_true (by omega)] at ha
          have HA := am_ ha
          clear ha
          go_enter Try.func22, Try.ntmps22
          go_wp2_with ((((with_reducible refine gate_dst (N := 5) rfl ?_); refine box_event ?hg (N := 5) ?hd (cs := #[.int .i64 i, .int .i64 t, .int .i64 m, .int .i64 r]) (t := 26) ?hr ?_; (case hd => rfl); (case hg => rfl); (case hr => first | (go_simp; done) | (go_simp; rfl))); intro g1 hg w_g1 hbox hb; have n_ := am_ (below_step (by repeat first | (with_reducible first | exact HB.out | apply ba_ | apply bn_ | apply bd_) | exact HB.out) hb); have BKg1 := am_ hbox; have GEg1 := am_ (show w.heap.size ≤ g1 from by rw [hg]; exact below_size (by repeat first | (with_reducible first | exact HB.out | apply ba_ | apply bn_ | apply bd_) | exact HB.out)); clear HB ; have HB := n_; clear n_ hb hbox hg); have yg1_0 : w_g1.cell? ⟨g1, 0, none⟩ = some (.int .i64 i) := (blk_cell BKg1.out 0).trans rfl; have fg1_0 := blk_frozen BKg1.out 0; have yg1_1 : w_g1.cell? ⟨g1, 1, none⟩ = some (.int .i64 t) := (blk_cell BKg1.out 1).trans rfl; have fg1_1 := blk_frozen BKg1.out 1; have yg1_2 : w_g1.cell? ⟨g1, 2, none⟩ = some (.int .i64 m) := (blk_cell BKg1.out 2).trans rfl; have fg1_2 := blk_frozen BKg1.out 2; have yg1_3 : w_g1.cell? ⟨g1, 3, none⟩ = some (.int .i64 r) := (blk_cell BKg1.out 3).trans rfl; have fg1_3 := blk_frozen BKg1.out 3)
          clear yg1_0 fg1_0 yg1_1 fg1_1 yg1_2 fg1_2 yg1_3 fg1_3
          refine (spec_RequiredAmount.calls e i t m r _ _ _ HQ.out).mono ?_
          rintro e2 w1 ⟨rfl, hb⟩
          replace BKg1 := am_ (blk_below (blk_below BKg1.out (by repeat first | exact Below.refl _ _ | apply ba_ | apply bn_ | apply bd_)) hb); replace HB := am_ (below_step (by repeat first | (with_reducible first | exact HB.out | apply ba_ | apply bn_ | apply bd_) | exact HB.out) hb); clear hb
          have yg1_0 : w1.cell? ⟨g1, 0, none⟩ = some (.int .i64 i) := (blk_cell BKg1.out 0).trans rfl; have fg1_0 := blk_frozen BKg1.out 0; have yg1_1 : w1.cell? ⟨g1, 1, none⟩ = some (.int .i64 t) := (blk_cell BKg1.out 1).trans rfl; have fg1_1 := blk_frozen BKg1.out 1; have yg1_2 : w1.cell? ⟨g1, 2, none⟩ = some (.int .i64 m) := (blk_cell BKg1.out 2).trans rfl; have fg1_2 := blk_frozen BKg1.out 2; have yg1_3 : w1.cell? ⟨g1, 3, none⟩ = some (.int .i64 r) := (blk_cell BKg1.out 3).trans rfl; have fg1_3 := blk_frozen BKg1.out 3
          go_wp2_with fail
          clear yg1_0 fg1_0 yg1_1 fg1_1 yg1_2 fg1_2 yg1_3 fg1_3
          refine (spec_l1In.calls h 0 1000000000 true _ HIN.out).mono ?_
          rintro e2 w2 ⟨rfl, hb0⟩
          have hb := db_ hb0
          clear hb0
          replace BKg1 := am_ (blk_below (blk_below BKg1.out (by repeat first | exact Below.refl _ _ | apply ba_ | apply bn_ | apply bd_)) hb); replace HB := am_ (below_step (by repeat first | (with_reducible first | exact HB.out | apply ba_ | apply bn_ | apply bd_) | exact HB.out) hb); clear hb
          have yg1_0 : w2.cell? ⟨g1, 0, none⟩ = some (.int .i64 i) := (blk_cell BKg1.out 0).trans rfl; have fg1_0 := blk_frozen BKg1.out 0; have yg1_1 : w2.cell? ⟨g1, 1, none⟩ = some (.int .i64 t) := (blk_cell BKg1.out 1).trans rfl; have fg1_1 := blk_frozen BKg1.out 1; have yg1_2 : w2.cell? ⟨g1, 2, none⟩ = some (.int .i64 m) := (blk_cell BKg1.out 2).trans rfl; have fg1_2 := blk_frozen BKg1.out 2; have yg1_3 : w2.cell? ⟨g1, 3, none⟩ = some (.int .i64 r) := (blk_cell BKg1.out 3).trans rfl; have fg1_3 := blk_frozen BKg1.out 3
          go_wp2_with fail
          go_quiet (fail)
          go_wp2_with fail
          go_quiet ((go_at_call 57; refine (spec_l1Most.calls N (-N) M _ HM.out).mono ?_; rintro e_ w_ ⟨rfl, ⟨nd, rfl⟩⟩; first | exact ⟨rfl, _, World.drewN_drewN _ _ _⟩ | exact ⟨rfl, _, Eq.trans (World.drewN_drewN _ _ _) (congrArg (World.drewN _) (Nat.add_assoc _ _ _))⟩))
          go_wp2_with fail
          refine (spec_l2Amount.calls 0 true _ HA.out).mono ?_
          rintro e2 w4 ⟨rfl, ⟨nq2, rfl⟩⟩
          go_wp2
          go_ret2
          exact ⟨rfl, (by repeat first | (with_reducible first | exact HB.out | apply ba_ | apply bn_ | apply bd_ | refine below_set ?_ GEg1.out) | exact HB.out)⟩
        · rw [if_neg q3]
          have cm : decide (M < m) = false := decide_eq_false q3
          clear q3
          have ha := l2Amount_eq N
          by_cases q4 : -1000000000 ≤ N ∧ N ≤ 1000000000
          · rw [if_pos q4]
            rw [decide_eq_true q4] at ha
            have HA := am_ ha
            clear ha q4
            go_enter Try.func22, Try.ntmps22
            go_wp2_with ((((with_reducible refine gate_dst (N := 5) rfl ?_); refine box_event ?hg (N := 5) ?hd (cs := #[.int .i64 i, .int .i64 t, .int .i64 m, .int .i64 r]) (t := 26) ?hr ?_; (case hd => rfl); (case hg => rfl); (case hr => first | (go_simp; done) | (go_simp; rfl))); intro g1 hg w_g1 hbox hb; have n_ := am_ (below_step (by repeat first | (with_reducible first | exact HB.out | apply ba_ | apply bn_ | apply bd_) | exact HB.out) hb); have BKg1 := am_ hbox; have GEg1 := am_ (show w.heap.size ≤ g1 from by rw [hg]; exact below_size (by repeat first | (with_reducible first | exact HB.out | apply ba_ | apply bn_ | apply bd_) | exact HB.out)); clear HB ; have HB := n_; clear n_ hb hbox hg); have yg1_0 : w_g1.cell? ⟨g1, 0, none⟩ = some (.int .i64 i) := (blk_cell BKg1.out 0).trans rfl; have fg1_0 := blk_frozen BKg1.out 0; have yg1_1 : w_g1.cell? ⟨g1, 1, none⟩ = some (.int .i64 t) := (blk_cell BKg1.out 1).trans rfl; have fg1_1 := blk_frozen BKg1.out 1; have yg1_2 : w_g1.cell? ⟨g1, 2, none⟩ = some (.int .i64 m) := (blk_cell BKg1.out 2).trans rfl; have fg1_2 := blk_frozen BKg1.out 2; have yg1_3 : w_g1.cell? ⟨g1, 3, none⟩ = some (.int .i64 r) := (blk_cell BKg1.out 3).trans rfl; have fg1_3 := blk_frozen BKg1.out 3)
            clear yg1_0 fg1_0 yg1_1 fg1_1 yg1_2 fg1_2 yg1_3 fg1_3
            refine (spec_RequiredAmount.calls e i t m r _ _ _ HQ.out).mono ?_
            rintro e2 w1 ⟨rfl, hb⟩
            replace BKg1 := am_ (blk_below (blk_below BKg1.out (by repeat first | exact Below.refl _ _ | apply ba_ | apply bn_ | apply bd_)) hb); replace HB := am_ (below_step (by repeat first | (with_reducible first | exact HB.out | apply ba_ | apply bn_ | apply bd_) | exact HB.out) hb); clear hb
            have yg1_0 : w1.cell? ⟨g1, 0, none⟩ = some (.int .i64 i) := (blk_cell BKg1.out 0).trans rfl; have fg1_0 := blk_frozen BKg1.out 0; have yg1_1 : w1.cell? ⟨g1, 1, none⟩ = some (.int .i64 t) := (blk_cell BKg1.out 1).trans rfl; have fg1_1 := blk_frozen BKg1.out 1; have yg1_2 : w1.cell? ⟨g1, 2, none⟩ = some (.int .i64 m) := (blk_cell BKg1.out 2).trans rfl; have fg1_2 := blk_frozen BKg1.out 2; have yg1_3 : w1.cell? ⟨g1, 3, none⟩ = some (.int .i64 r) := (blk_cell BKg1.out 3).trans rfl; have fg1_3 := blk_frozen BKg1.out 3
            go_wp2_with fail
            clear yg1_0 fg1_0 yg1_1 fg1_1 yg1_2 fg1_2 yg1_3 fg1_3
            refine (spec_l1In.calls h 0 1000000000 true _ HIN.out).mono ?_
            rintro e2 w2 ⟨rfl, hb0⟩
            have hb := db_ hb0
            clear hb0
            replace BKg1 := am_ (blk_below (blk_below BKg1.out (by repeat first | exact Below.refl _ _ | apply ba_ | apply bn_ | apply bd_)) hb); replace HB := am_ (below_step (by repeat first | (with_reducible first | exact HB.out | apply ba_ | apply bn_ | apply bd_) | exact HB.out) hb); clear hb
            have yg1_0 : w2.cell? ⟨g1, 0, none⟩ = some (.int .i64 i) := (blk_cell BKg1.out 0).trans rfl; have fg1_0 := blk_frozen BKg1.out 0; have yg1_1 : w2.cell? ⟨g1, 1, none⟩ = some (.int .i64 t) := (blk_cell BKg1.out 1).trans rfl; have fg1_1 := blk_frozen BKg1.out 1; have yg1_2 : w2.cell? ⟨g1, 2, none⟩ = some (.int .i64 m) := (blk_cell BKg1.out 2).trans rfl; have fg1_2 := blk_frozen BKg1.out 2; have yg1_3 : w2.cell? ⟨g1, 3, none⟩ = some (.int .i64 r) := (blk_cell BKg1.out 3).trans rfl; have fg1_3 := blk_frozen BKg1.out 3
            go_wp2_with fail
            go_quiet (fail)
            go_wp2_with fail
            go_quiet ((go_at_call 57; refine (spec_l1Most.calls N (-N) M _ HM.out).mono ?_; rintro e_ w_ ⟨rfl, ⟨nd, rfl⟩⟩; first | exact ⟨rfl, _, World.drewN_drewN _ _ _⟩ | exact ⟨rfl, _, Eq.trans (World.drewN_drewN _ _ _) (congrArg (World.drewN _) (Nat.add_assoc _ _ _))⟩))
            go_wp2_with fail
            refine (spec_l2Amount.calls N true _ HA.out).mono ?_
            rintro e2 w4 ⟨rfl, ⟨nq2, rfl⟩⟩
            go_wp2
            go_ret2
            exact ⟨rfl, (by repeat first | (with_reducible first | exact HB.out | apply ba_ | apply bn_ | apply bd_ | refine below_set ?_ GEg1.out) | exact HB.out)⟩
          · rw [if_neg q4]
            rw [decide_eq_false q4] at ha
            have HA := am_ ha
            clear ha q4
            go_enter Try.func22, Try.ntmps22
            go_wp2_with ((((with_reducible refine gate_dst (N := 5) rfl ?_); refine box_event ?hg (N := 5) ?hd (cs := #[.int .i64 i, .int .i64 t, .int .i64 m, .int .i64 r]) (t := 26) ?hr ?_; (case hd => rfl); (case hg => rfl); (case hr => first | (go_simp; done) | (go_simp; rfl))); intro g1 hg w_g1 hbox hb; have n_ := am_ (below_step (by repeat first | (with_reducible first | exact HB.out | apply ba_ | apply bn_ | apply bd_) | exact HB.out) hb); have BKg1 := am_ hbox; have GEg1 := am_ (show w.heap.size ≤ g1 from by rw [hg]; exact below_size (by repeat first | (with_reducible first | exact HB.out | apply ba_ | apply bn_ | apply bd_) | exact HB.out)); clear HB ; have HB := n_; clear n_ hb hbox hg); have yg1_0 : w_g1.cell? ⟨g1, 0, none⟩ = some (.int .i64 i) := (blk_cell BKg1.out 0).trans rfl; have fg1_0 := blk_frozen BKg1.out 0; have yg1_1 : w_g1.cell? ⟨g1, 1, none⟩ = some (.int .i64 t) := (blk_cell BKg1.out 1).trans rfl; have fg1_1 := blk_frozen BKg1.out 1; have yg1_2 : w_g1.cell? ⟨g1, 2, none⟩ = some (.int .i64 m) := (blk_cell BKg1.out 2).trans rfl; have fg1_2 := blk_frozen BKg1.out 2; have yg1_3 : w_g1.cell? ⟨g1, 3, none⟩ = some (.int .i64 r) := (blk_cell BKg1.out 3).trans rfl; have fg1_3 := blk_frozen BKg1.out 3)
            clear yg1_0 fg1_0 yg1_1 fg1_1 yg1_2 fg1_2 yg1_3 fg1_3
            refine (spec_RequiredAmount.calls e i t m r _ _ _ HQ.out).mono ?_
            rintro e2 w1 ⟨rfl, hb⟩
            replace BKg1 := am_ (blk_below (blk_below BKg1.out (by repeat first | exact Below.refl _ _ | apply ba_ | apply bn_ | apply bd_)) hb); replace HB := am_ (below_step (by repeat first | (with_reducible first | exact HB.out | apply ba_ | apply bn_ | apply bd_) | exact HB.out) hb); clear hb
            have yg1_0 : w1.cell? ⟨g1, 0, none⟩ = some (.int .i64 i) := (blk_cell BKg1.out 0).trans rfl; have fg1_0 := blk_frozen BKg1.out 0; have yg1_1 : w1.cell? ⟨g1, 1, none⟩ = some (.int .i64 t) := (blk_cell BKg1.out 1).trans rfl; have fg1_1 := blk_frozen BKg1.out 1; have yg1_2 : w1.cell? ⟨g1, 2, none⟩ = some (.int .i64 m) := (blk_cell BKg1.out 2).trans rfl; have fg1_2 := blk_frozen BKg1.out 2; have yg1_3 : w1.cell? ⟨g1, 3, none⟩ = some (.int .i64 r) := (blk_cell BKg1.out 3).trans rfl; have fg1_3 := blk_frozen BKg1.out 3
            go_wp2_with fail
            clear yg1_0 fg1_0 yg1_1 fg1_1 yg1_2 fg1_2 yg1_3 fg1_3
            refine (spec_l1In.calls h 0 1000000000 true _ HIN.out).mono ?_
            rintro e2 w2 ⟨rfl, hb0⟩
            have hb := db_ hb0
            clear hb0
            replace BKg1 := am_ (blk_below (blk_below BKg1.out (by repeat first | exact Below.refl _ _ | apply ba_ | apply bn_ | apply bd_)) hb); replace HB := am_ (below_step (by repeat first | (with_reducible first | exact HB.out | apply ba_ | apply bn_ | apply bd_) | exact HB.out) hb); clear hb
            have yg1_0 : w2.cell? ⟨g1, 0, none⟩ = some (.int .i64 i) := (blk_cell BKg1.out 0).trans rfl; have fg1_0 := blk_frozen BKg1.out 0; have yg1_1 : w2.cell? ⟨g1, 1, none⟩ = some (.int .i64 t) := (blk_cell BKg1.out 1).trans rfl; have fg1_1 := blk_frozen BKg1.out 1; have yg1_2 : w2.cell? ⟨g1, 2, none⟩ = some (.int .i64 m) := (blk_cell BKg1.out 2).trans rfl; have fg1_2 := blk_frozen BKg1.out 2; have yg1_3 : w2.cell? ⟨g1, 3, none⟩ = some (.int .i64 r) := (blk_cell BKg1.out 3).trans rfl; have fg1_3 := blk_frozen BKg1.out 3
            go_wp2_with fail
            go_quiet (fail)
            go_wp2_with fail
            go_quiet ((go_at_call 57; refine (spec_l1Most.calls N (-N) M _ HM.out).mono ?_; rintro e_ w_ ⟨rfl, ⟨nd, rfl⟩⟩; first | exact ⟨rfl, _, World.drewN_drewN _ _ _⟩ | exact ⟨rfl, _, Eq.trans (World.drewN_drewN _ _ _) (congrArg (World.drewN _) (Nat.add_assoc _ _ _))⟩))
            go_wp2_with fail
            refine (spec_l2Amount.calls N false _ HA.out).mono ?_
            rintro e2 w4 ⟨rfl, ⟨nq2, rfl⟩⟩
            go_wp2
            go_ret2
            exact ⟨rfl, (by repeat first | (with_reducible first | exact HB.out | apply ba_ | apply bn_ | apply bd_ | refine below_set ?_ GEg1.out) | exact HB.out)⟩
    · rw [if_neg ch]
      rw [decide_eq_false ch] at hin
      have HIN := am_ hin
      clear hin ch
      go_enter Try.func22, Try.ntmps22
      go_wp2_with ((((with_reducible refine gate_dst (N := 5) rfl ?_); refine box_event ?hg (N := 5) ?hd (cs := #[.int .i64 i, .int .i64 t, .int .i64 m, .int .i64 r]) (t := 26) ?hr ?_; (case hd => rfl); (case hg => rfl); (case hr => first | (go_simp; done) | (go_simp; rfl))); intro g1 hg w_g1 hbox hb; have n_ := am_ (below_step (by repeat first | (with_reducible first | exact HB.out | apply ba_ | apply bn_ | apply bd_) | exact HB.out) hb); have BKg1 := am_ hbox; have GEg1 := am_ (show w.heap.size ≤ g1 from by rw [hg]; exact below_size (by repeat first | (with_reducible first | exact HB.out | apply ba_ | apply bn_ | apply bd_) | exact HB.out)); clear HB ; have HB := n_; clear n_ hb hbox hg); have yg1_0 : w_g1.cell? ⟨g1, 0, none⟩ = some (.int .i64 i) := (blk_cell BKg1.out 0).trans rfl; have fg1_0 := blk_frozen BKg1.out 0; have yg1_1 : w_g1.cell? ⟨g1, 1, none⟩ = some (.int .i64 t) := (blk_cell BKg1.out 1).trans rfl; have fg1_1 := blk_frozen BKg1.out 1; have yg1_2 : w_g1.cell? ⟨g1, 2, none⟩ = some (.int .i64 m) := (blk_cell BKg1.out 2).trans rfl; have fg1_2 := blk_frozen BKg1.out 2; have yg1_3 : w_g1.cell? ⟨g1, 3, none⟩ = some (.int .i64 r) := (blk_cell BKg1.out 3).trans rfl; have fg1_3 := blk_frozen BKg1.out 3)
      clear yg1_0 fg1_0 yg1_1 fg1_1 yg1_2 fg1_2 yg1_3 fg1_3
      refine (spec_RequiredAmount.calls e i t m r _ _ _ HQ.out).mono ?_
      rintro e2 w1 ⟨rfl, hb⟩
      replace BKg1 := am_ (blk_below (blk_below BKg1.out (by repeat first | exact Below.refl _ _ | apply ba_ | apply bn_ | apply bd_)) hb); replace HB := am_ (below_step (by repeat first | (with_reducible first | exact HB.out | apply ba_ | apply bn_ | apply bd_) | exact HB.out) hb); clear hb
      go_wp2_with fail
      refine (spec_l1In.calls h 0 1000000000 false _ HIN.out).mono ?_
      rintro e2 w2 ⟨rfl, hb0⟩
      have hb := db_ hb0
      clear hb0
      replace BKg1 := am_ (blk_below (blk_below BKg1.out (by repeat first | exact Below.refl _ _ | apply ba_ | apply bn_ | apply bd_)) hb); replace HB := am_ (below_step (by repeat first | (with_reducible first | exact HB.out | apply ba_ | apply bn_ | apply bd_) | exact HB.out) hb); clear hb
      go_wp2
      go_ret2
      exact ⟨rfl, (by repeat first | (with_reducible first | exact HB.out | apply ba_ | apply bn_ | apply bd_ | refine below_set ?_ GEg1.out) | exact HB.out)⟩
  · rw [reqA_no c] at hq
    have hA : callA e h i t m r = (0, false) := by unfold callA; rw [if_neg (fun g => c g.1)]
    rw [hA]
    have HQ := am_ hq
    clear hq hA c hin
    go_enter Try.func22, Try.ntmps22
    go_wp2_with ((((with_reducible refine gate_dst (N := 5) rfl ?_); refine box_event ?hg (N := 5) ?hd (cs := #[.int .i64 i, .int .i64 t, .int .i64 m, .int .i64 r]) (t := 26) ?hr ?_; (case hd => rfl); (case hg => rfl); (case hr => first | (go_simp; done) | (go_simp; rfl))); intro g1 hg w_g1 hbox hb; have n_ := am_ (below_step (by repeat first | (with_reducible first | exact HB.out | apply ba_ | apply bn_ | apply bd_) | exact HB.out) hb); have BKg1 := am_ hbox; have GEg1 := am_ (show w.heap.size ≤ g1 from by rw [hg]; exact below_size (by repeat first | (with_reducible first | exact HB.out | apply ba_ | apply bn_ | apply bd_) | exact HB.out)); clear HB ; have HB := n_; clear n_ hb hbox hg); have yg1_0 : w_g1.cell? ⟨g1, 0, none⟩ = some (.int .i64 i) := (blk_cell BKg1.out 0).trans rfl; have fg1_0 := blk_frozen BKg1.out 0; have yg1_1 : w_g1.cell? ⟨g1, 1, none⟩ = some (.int .i64 t) := (blk_cell BKg1.out 1).trans rfl; have fg1_1 := blk_frozen BKg1.out 1; have yg1_2 : w_g1.cell? ⟨g1, 2, none⟩ = some (.int .i64 m) := (blk_cell BKg1.out 2).trans rfl; have fg1_2 := blk_frozen BKg1.out 2; have yg1_3 : w_g1.cell? ⟨g1, 3, none⟩ = some (.int .i64 r) := (blk_cell BKg1.out 3).trans rfl; have fg1_3 := blk_frozen BKg1.out 3)
    clear yg1_0 fg1_0 yg1_1 fg1_1 yg1_2 fg1_2 yg1_3 fg1_3
    refine (spec_RequiredAmount.calls e i t m r _ _ _ HQ.out).mono ?_
    rintro e2 w1 ⟨rfl, hb⟩
    replace BKg1 := am_ (blk_below (blk_below BKg1.out (by repeat first | exact Below.refl _ _ | apply ba_ | apply bn_ | apply bd_)) hb); replace HB := am_ (below_step (by repeat first | (with_reducible first | exact HB.out | apply ba_ | apply bn_ | apply bd_) | exact HB.out) hb); clear hb
    go_wp2
    go_ret2
    exact ⟨rfl, (by repeat first | (with_reducible first | exact HB.out | apply ba_ | apply bn_ | apply bd_ | refine below_set ?_ GEg1.out) | exact HB.out)⟩
set_option maxHeartbeats 8000000 in
set_option maxRecDepth 100000 in
theorem histS_c (A0 : Option Addr) (c0 : Nat) (xs : List Int) (i t m r : Int) (w : World) (hr0 : (Kd.int .i64).C w A0 xs.length xs) (hc0 : xs.length ≤ c0) (ha0 : 0 < xs.length → ∃ b, A0 = some ⟨b, 0, none⟩) (hn : xs.length ≤ 1048576) :
    Calls Try.prog 39 #[.slice A0 xs.length c0, .agg #[.int .i64 i, .int .i64 t, .int .i64 m, .int .i64 r]] w fun e2 w' => ∃ v, e2 = .returned (.tuple #[v, .bool (histA xs i t m r).2]) ∧ (Kd.int .i64).R 3 w' w.heap.size (fun _ => True) v (histA xs i t m r).1 ∧ Below w.heap.size w w' := by
  have HB := am_ (Below.refl w.heap.size w)
  have HR0 := am_ hr0
  have HC0 := am_ hc0
  have HA0 := am_ ha0
  clear hr0 hc0 ha0
  obtain ⟨ka, g1_⟩ := roundsOf (specAms_ev xs hn)
  have g2_ := l17Terms_eq i t m r
  by_cases ca : okAm xs
  · rw [decide_eq_true ca] at g1_
    have G1 := am_ g1_
    clear g1_
    by_cases ct : okT i t m r
    · rw [decide_eq_true ct] at g2_
      have G2 := am_ g2_
      clear g2_
      have hfin : histA xs i t m r = histL i t m r xs 0 [] := by unfold histA; rw [if_pos ⟨ca, ct⟩]
      rw [hfin]
      obtain ⟨FIN, hFIN⟩ : ∃ F, F = histL i t m r xs 0 [] := ⟨_, rfl⟩
      rw [← hFIN]
      have HF := am_ (show histL i t m r (xs.drop 0) 0 [] = FIN from hFIN.symm)
      have hn20 : xs.length ≤ 20 := ca.1
      clear hfin hFIN ca ct
      go_enter Try.func39, Try.ntmps39
      go_wp2_with (first
        | (((with_reducible refine gate_dst (N := 3) rfl ?_); refine box_event ?hg (N := 3) ?hd (cs := #[.int .i64 i, .int .i64 t, .int .i64 m, .int .i64 r]) (t := 26) ?hr ?_; (case hd => rfl); (case hg => rfl); (case hr => first | (go_simp; done) | (go_simp; rfl))); intro g1 hg w_g1 hbox hb; have n_ := am_ (below_step (by repeat first | (with_reducible first | exact HB.out | apply ba_ | apply bn_ | apply bd_) | exact HB.out) hb); have BKg1 := am_ hbox; have GEg1 := am_ (show w.heap.size ≤ g1 from by rw [hg]; exact below_size (by repeat first | (with_reducible first | exact HB.out | apply ba_ | apply bn_ | apply bd_) | exact HB.out)); clear HB ; have HB := n_; clear n_ hb hbox hg)
        | (((with_reducible refine gate_dst (N := 11) rfl ?_); refine Kd.R_lit (Kd.int .i64) w.heap.size 3 (w0 := w) ?hg (N := 11) ?hd (xs := []) (inner := []) (ok := fun _ => True) (okp := fun _ => True) ?hr ?hp (fun _ hk => hk) trivial (by repeat first | (with_reducible first | exact HB.out | apply ba_ | apply bn_ | apply bd_) | exact HB.out) (below_size (by repeat first | (with_reducible first | exact HB.out | apply ba_ | apply bn_ | apply bd_) | exact HB.out)) (by simp) ?_; (case hd => rfl); (case hg => rfl); (case hr => first | (go_simp; done) | (go_simp; rfl)); (case hp => exact (Reps.none _ _)); intro v1 w1 ho hb hgr hnw); have HOUT := am_ ho; have n_ := am_ (blk_grown BKg1.out hgr (by simp)); clear BKg1 HB; have BKg1 := n_; have HB := am_ hb; clear n_ ho hb hgr hnw))
      refine (spec_l2Amounts.calls ka A0 c0 xs true _ (by repeat first | exact (Kd.C_below HR0.out HB.out) | with_reducible refine ca_ ?_ _ | with_reducible refine cn_ ?_ _ | with_reducible refine cd_ ?_) HC0.out G1.out).mono ?_
      rintro e2 w1 ⟨rfl, hb0⟩
      have hb := db_ hb0
      clear hb0
      replace HOUT := am_ (Kd.R_below (by (with_reducible repeat first | apply ra_ | apply rn_ | apply rd_); exact HOUT.out) hb); replace BKg1 := am_ (blk_below (blk_below BKg1.out (by repeat first | exact Below.refl _ _ | apply ba_ | apply bn_ | apply bd_)) hb); replace HB := am_ (below_step (by repeat first | (with_reducible first | exact HB.out | apply ba_ | apply bn_ | apply bd_) | exact HB.out) hb); clear hb
      have yg1_0 : w1.cell? ⟨g1, 0, none⟩ = some (.int .i64 i) := (blk_cell BKg1.out 0).trans rfl; have fg1_0 := blk_frozen BKg1.out 0; have yg1_1 : w1.cell? ⟨g1, 1, none⟩ = some (.int .i64 t) := (blk_cell BKg1.out 1).trans rfl; have fg1_1 := blk_frozen BKg1.out 1; have yg1_2 : w1.cell? ⟨g1, 2, none⟩ = some (.int .i64 m) := (blk_cell BKg1.out 2).trans rfl; have fg1_2 := blk_frozen BKg1.out 2; have yg1_3 : w1.cell? ⟨g1, 3, none⟩ = some (.int .i64 r) := (blk_cell BKg1.out 3).trans rfl; have fg1_3 := blk_frozen BKg1.out 3
      go_wp2_with fail
      clear yg1_0 fg1_0 yg1_1 fg1_1 yg1_2 fg1_2 yg1_3 fg1_3
      refine (spec_l17Terms.calls i t m r true _ G2.out).mono ?_
      rintro e2 w2 ⟨rfl, hb⟩
      replace HOUT := am_ (Kd.R_below (by (with_reducible repeat first | apply ra_ | apply rn_ | apply rd_); exact HOUT.out) hb); replace BKg1 := am_ (blk_below (blk_below BKg1.out (by repeat first | exact Below.refl _ _ | apply ba_ | apply bn_ | apply bd_)) hb); replace HB := am_ (below_step (by repeat first | (with_reducible first | exact HB.out | apply ba_ | apply bn_ | apply bd_) | exact HB.out) hb); clear hb
      go_wp2_with fail
      go_loopw [6, 7, 8] (fun vo vh vk wr => ∃ (k : Nat) (h : Int) (out : List Int), vh = .int .i64 h ∧ vk = .int .i64 k ∧ Aside0 (k ≤ xs.length) ∧ Aside0 (-2000000000 ≤ h ∧ h ≤ 2000000000) ∧ Aside0 (out.length ≤ k) ∧ Aside0 (histL i t m r (xs.drop k) h out = FIN) ∧ Aside0 ((Kd.int .i64).R 3 wr w.heap.size (fun _ => True) vo out) ∧ Aside0 (wr.heap[g1]? = some (.cells #[.int .i64 i, .int .i64 t, .int .i64 m, .int .i64 r] 26 (0, 0))) ∧ Aside0 (Below w.heap.size w wr)) (fun _ _ vk _ => xs.length - (intOf vk).toNat)
      case atStart => exact ⟨0, 0, [], rfl, rfl, ⟨Nat.zero_le _⟩, ⟨by decide⟩, ⟨Nat.le_refl _⟩, HF, ⟨(by (with_reducible repeat first | apply ra_ | apply rn_ | apply rd_); exact HOUT.out)⟩, ⟨(by repeat (with_reducible first | exact BKg1.out | refine kn_ ?_ _ | refine kd_ ?_ | refine ka_ ?_ _))⟩, ⟨(by repeat first | (with_reducible first | exact HB.out | apply ba_ | apply bn_ | apply bd_) | exact HB.out)⟩⟩
      case round =>
        clear HF HOUT BKg1 HB
        obtain ⟨k, h, out, rfl, rfl, HI, HH, HOL, HF, HOUT, BKg1, HB⟩ := hrel
        by_cases hil : k < xs.length
        · have ci : decide (k < xs.length) = true := decide_eq_true hil
          obtain ⟨b0, e0⟩ := HA0.out (by omega)
          subst e0
          have hcx := cellsOfD HR0.out k hil
          rw [Nat.zero_add] at hcx
          obtain ⟨x, hx⟩ : ∃ x, x = xs.getD k 0 := ⟨_, rfl⟩
          rw [← hx] at hcx
          have HCX := am_ hcx
          have HBX := am_ (World.block_lt_of_cell? w _ hcx)
          obtain ⟨AC, hAC⟩ : ∃ F, F = callA x h i t m r := ⟨_, rfl⟩
          have hnb := callA_bd x h i t m r
          have hok := fun q : (callA x h i t m r).2 = true => callA_ok q
          rw [← hAC] at hnb hok
          obtain ⟨n, so⟩ := AC
          simp only at hnb hok
          have HAC := am_ hAC.symm
          have hst := histL_at (i := i) (t := t) (m := m) (r := r) hil h out hx.symm hAC.symm
          rw [HF.out] at hst
          have HST := am_ hst
          have hh1 := HH.out.1
          have hh2 := HH.out.2
          have hol : out.length ≤ 20 := by have := HOL.out; omega
          clear hst hAC hx
          replace hcx := (HB.out.cell HBX.out).trans hcx
          have yg1_0 : wr.cell? ⟨g1, 0, none⟩ = some (.int .i64 i) := (blk_cell BKg1.out 0).trans rfl; have fg1_0 := blk_frozen BKg1.out 0; have yg1_1 : wr.cell? ⟨g1, 1, none⟩ = some (.int .i64 t) := (blk_cell BKg1.out 1).trans rfl; have fg1_1 := blk_frozen BKg1.out 1; have yg1_2 : wr.cell? ⟨g1, 2, none⟩ = some (.int .i64 m) := (blk_cell BKg1.out 2).trans rfl; have fg1_2 := blk_frozen BKg1.out 2; have yg1_3 : wr.cell? ⟨g1, 3, none⟩ = some (.int .i64 r) := (blk_cell BKg1.out 3).trans rfl; have fg1_3 := blk_frozen BKg1.out 3
          go_upto_region 8 with (fail)
          go_region_held3 (fun w' => w'.cell? ⟨g1, 0, none⟩ = some (.int .i64 i) ∧ w'.cell? ⟨g1, 1, none⟩ = some (.int .i64 t) ∧ w'.cell? ⟨g1, 2, none⟩ = some (.int .i64 m) ∧ w'.cell? ⟨g1, 3, none⟩ = some (.int .i64 r) ∧ w'.cell? ⟨b0, k, none⟩ = some (.int .i64 x)) (go_keep)
            ((first
              | (go_at_call 22; refine (callS_c x h i t m r _).mono ?_; rw [HAC.out]; rintro e2 w1_ ⟨rfl, hb⟩; replace HOUT := am_ (Kd.R_below (by (with_reducible repeat first | apply ra_ | apply rn_ | apply rd_); exact HOUT.out) hb); replace BKg1 := am_ (blk_below (blk_below BKg1.out (by repeat first | exact Below.refl _ _ | apply ba_ | apply bn_ | apply bd_)) hb); replace HB := am_ (below_step (by repeat first | (with_reducible first | exact HB.out | apply ba_ | apply bn_ | apply bd_) | exact HB.out) hb); clear hb; clear hcx yg1_0 yg1_1 yg1_2 yg1_3 fg1_0 fg1_1 fg1_2 fg1_3; have hcx := (HB.out.cell HBX.out).trans HCX.out; have yg1_0 : w1_.cell? ⟨g1, 0, none⟩ = some (.int .i64 i) := (blk_cell BKg1.out 0).trans rfl; have fg1_0 := blk_frozen BKg1.out 0; have yg1_1 : w1_.cell? ⟨g1, 1, none⟩ = some (.int .i64 t) := (blk_cell BKg1.out 1).trans rfl; have fg1_1 := blk_frozen BKg1.out 1; have yg1_2 : w1_.cell? ⟨g1, 2, none⟩ = some (.int .i64 m) := (blk_cell BKg1.out 2).trans rfl; have fg1_2 := blk_frozen BKg1.out 2; have yg1_3 : w1_.cell? ⟨g1, 3, none⟩ = some (.int .i64 r) := (blk_cell BKg1.out 3).trans rfl; have fg1_3 := blk_frozen BKg1.out 3)))
          clear hcx
          clear yg1_0 fg1_0 yg1_1 fg1_1 yg1_2 fg1_2 yg1_3 fg1_3
          cases so with
          | false =>
            have HFZ := am_ (show FIN = ([], false) from by rw [HST.out]; rfl)
            go_wp2_with ((with_reducible refine gate_dst (N := 39) rfl ?_); refine Kd.R_lit (Kd.int .i64) w.heap.size 3 (w0 := w) ?hg (N := 39) ?hd (xs := []) (inner := []) (ok := fun _ => True) (okp := fun _ => True) ?hr ?hp (fun _ hk => hk) trivial (by repeat first | (with_reducible first | exact HB.out | apply ba_ | apply bn_ | apply bd_) | exact HB.out) (below_size (by repeat first | (with_reducible first | exact HB.out | apply ba_ | apply bn_ | apply bd_) | exact HB.out)) (by simp) ?_; (case hd => rfl); (case hg => rfl); (case hr => first | (go_simp; done) | (go_simp; rfl)); (case hp => exact (Reps.none _ _)); intro v1 w1 ho hb hgr hnw)
            go_ret2
            exact ⟨_, by rw [HFZ.out]; rfl, by rw [HFZ.out]; exact (by (with_reducible repeat first | apply ra_ | apply rn_ | apply rd_); exact ho), (by repeat first | (with_reducible first | exact hb | apply ba_ | apply bn_ | apply bd_) | exact hb)⟩
          | true =>
            have HFS := am_ (show histL i t m r (xs.drop (k + 1)) (h + n) (out ++ [n]) = FIN from by rw [HST.out]; rfl)
            obtain ⟨h0, h1⟩ := hok rfl
            have hn1 := hnb.1
            have hn2 := hnb.2
            clear hok
            go_wp2_with (((with_reducible refine gate_builtin (b := .append) (xs := #[.tmp 43, .tmp 45]) rfl ?_); at_builtin; refine Kd.R_append (Kd.int .i64) (w0 := w) w.heap.size rfl (.tmp 43) (.tmp 45) 39 3 (.int .i64 0) 8 rfl Try.underlying39 infoI rfl (by decide) (by omega) u6 out (n : Int) [.int .i64 n] (fun _ => True) (fun _ => False) rfl rfl ?aP (fun _ hk => hk.elim) ?aF ?aO ?aB ?aS ?aL ?_; (case aP => exact rfl); (case aB => exact (by repeat first | (with_reducible first | exact HB.out | apply ba_ | apply bn_ | apply bd_) | exact HB.out)); (case aF => exact (fun _ _ => trivial)); (case aO => exact (by (with_reducible repeat first | apply ra_ | apply rn_ | apply rd_); exact HOUT.out)); (case aS => exact (below_size (by repeat first | (with_reducible first | exact HB.out | apply ba_ | apply bn_ | apply bd_) | exact HB.out))); (case aL => omega); intro v1 w1 ho hb hg hat); have n_ := am_ (blk_grown BKg1.out hg (own_ne HOUT.out BKg1.out (by decide))); clear BKg1; have BKg1 := n_; clear n_)
            go_roundw
            case rel => exact ⟨k + 1, h + n, out ++ [n], rfl, by go_num, ⟨by omega⟩, ⟨by omega⟩, ⟨by rw [List.length_append, List.length_singleton]; have := HOL.out; omega⟩, HFS, ⟨(by (with_reducible repeat first | apply ra_ | apply rn_ | apply rd_); exact ho)⟩, ⟨(by repeat (with_reducible first | exact BKg1.out | refine kn_ ?_ _ | refine kd_ ?_ | refine ka_ ?_ _))⟩, ⟨(by repeat first | (with_reducible first | exact hb | apply ba_ | apply bn_ | apply bd_) | exact hb)⟩⟩
            case measure => simp [intOf]; omega
        · have ci : decide (k < xs.length) = false := decide_eq_false hil
          have hfe := histL_end (i := i) (t := t) (m := m) (r := r) hil h out
          rw [HF.out] at hfe
          have HFE := am_ hfe
          clear hfe
          go_wp2
          go_ret2
          exact ⟨_, by rw [HFE.out]; rfl, by rw [HFE.out]; exact (by (with_reducible repeat first | apply ra_ | apply rn_ | apply rd_); exact HOUT.out), (by repeat first | (with_reducible first | exact HB.out | apply ba_ | apply bn_ | apply bd_) | exact HB.out)⟩
    · rw [decide_eq_false ct] at g2_
      have G2 := am_ g2_
      clear g2_
      have hfin : histA xs i t m r = ([], false) := by unfold histA; rw [if_neg (fun v => ct v.2)]
      rw [hfin]
      clear hfin ca ct
      go_enter Try.func39, Try.ntmps39
      go_wp2_with (first
        | (((with_reducible refine gate_dst (N := 3) rfl ?_); refine box_event ?hg (N := 3) ?hd (cs := #[.int .i64 i, .int .i64 t, .int .i64 m, .int .i64 r]) (t := 26) ?hr ?_; (case hd => rfl); (case hg => rfl); (case hr => first | (go_simp; done) | (go_simp; rfl))); intro g1 hg w_g1 hbox hb; have n_ := am_ (below_step (by repeat first | (with_reducible first | exact HB.out | apply ba_ | apply bn_ | apply bd_) | exact HB.out) hb); have BKg1 := am_ hbox; have GEg1 := am_ (show w.heap.size ≤ g1 from by rw [hg]; exact below_size (by repeat first | (with_reducible first | exact HB.out | apply ba_ | apply bn_ | apply bd_) | exact HB.out)); clear HB ; have HB := n_; clear n_ hb hbox hg)
        | (((with_reducible refine gate_dst (N := 11) rfl ?_); refine Kd.R_lit (Kd.int .i64) w.heap.size 3 (w0 := w) ?hg (N := 11) ?hd (xs := []) (inner := []) (ok := fun _ => True) (okp := fun _ => True) ?hr ?hp (fun _ hk => hk) trivial (by repeat first | (with_reducible first | exact HB.out | apply ba_ | apply bn_ | apply bd_) | exact HB.out) (below_size (by repeat first | (with_reducible first | exact HB.out | apply ba_ | apply bn_ | apply bd_) | exact HB.out)) (by simp) ?_; (case hd => rfl); (case hg => rfl); (case hr => first | (go_simp; done) | (go_simp; rfl)); (case hp => exact (Reps.none _ _)); intro v1 w1 ho hb hgr hnw); have HOUT := am_ ho; have n_ := am_ (blk_grown BKg1.out hgr (by simp)); clear BKg1 HB; have BKg1 := n_; have HB := am_ hb; clear n_ ho hb hgr hnw))
      refine (spec_l2Amounts.calls ka A0 c0 xs true _ (by repeat first | exact (Kd.C_below HR0.out HB.out) | with_reducible refine ca_ ?_ _ | with_reducible refine cn_ ?_ _ | with_reducible refine cd_ ?_) HC0.out G1.out).mono ?_
      rintro e2 w1 ⟨rfl, hb0⟩
      have hb := db_ hb0
      clear hb0
      replace HOUT := am_ (Kd.R_below (by (with_reducible repeat first | apply ra_ | apply rn_ | apply rd_); exact HOUT.out) hb); replace BKg1 := am_ (blk_below (blk_below BKg1.out (by repeat first | exact Below.refl _ _ | apply ba_ | apply bn_ | apply bd_)) hb); replace HB := am_ (below_step (by repeat first | (with_reducible first | exact HB.out | apply ba_ | apply bn_ | apply bd_) | exact HB.out) hb); clear hb
      have yg1_0 : w1.cell? ⟨g1, 0, none⟩ = some (.int .i64 i) := (blk_cell BKg1.out 0).trans rfl; have fg1_0 := blk_frozen BKg1.out 0; have yg1_1 : w1.cell? ⟨g1, 1, none⟩ = some (.int .i64 t) := (blk_cell BKg1.out 1).trans rfl; have fg1_1 := blk_frozen BKg1.out 1; have yg1_2 : w1.cell? ⟨g1, 2, none⟩ = some (.int .i64 m) := (blk_cell BKg1.out 2).trans rfl; have fg1_2 := blk_frozen BKg1.out 2; have yg1_3 : w1.cell? ⟨g1, 3, none⟩ = some (.int .i64 r) := (blk_cell BKg1.out 3).trans rfl; have fg1_3 := blk_frozen BKg1.out 3
      go_wp2_with fail
      clear yg1_0 fg1_0 yg1_1 fg1_1 yg1_2 fg1_2 yg1_3 fg1_3
      refine (spec_l17Terms.calls i t m r false _ G2.out).mono ?_
      rintro e2 w2 ⟨rfl, hb⟩
      replace HOUT := am_ (Kd.R_below (by (with_reducible repeat first | apply ra_ | apply rn_ | apply rd_); exact HOUT.out) hb); replace BKg1 := am_ (blk_below (blk_below BKg1.out (by repeat first | exact Below.refl _ _ | apply ba_ | apply bn_ | apply bd_)) hb); replace HB := am_ (below_step (by repeat first | (with_reducible first | exact HB.out | apply ba_ | apply bn_ | apply bd_) | exact HB.out) hb); clear hb
      go_wp2
      go_ret2
      exact ⟨_, rfl, (by (with_reducible repeat first | apply ra_ | apply rn_ | apply rd_); exact HOUT.out), (by repeat first | (with_reducible first | exact HB.out | apply ba_ | apply bn_ | apply bd_ | refine below_set ?_ GEg1.out) | exact HB.out)⟩
  · rw [decide_eq_false ca] at g1_
    have G1 := am_ g1_
    clear g1_ g2_
    have hfin : histA xs i t m r = ([], false) := by unfold histA; rw [if_neg (fun v => ca v.1)]
    rw [hfin]
    clear hfin ca
    go_enter Try.func39, Try.ntmps39
    go_wp2_with (first
      | (((with_reducible refine gate_dst (N := 3) rfl ?_); refine box_event ?hg (N := 3) ?hd (cs := #[.int .i64 i, .int .i64 t, .int .i64 m, .int .i64 r]) (t := 26) ?hr ?_; (case hd => rfl); (case hg => rfl); (case hr => first | (go_simp; done) | (go_simp; rfl))); intro g1 hg w_g1 hbox hb; have n_ := am_ (below_step (by repeat first | (with_reducible first | exact HB.out | apply ba_ | apply bn_ | apply bd_) | exact HB.out) hb); have BKg1 := am_ hbox; have GEg1 := am_ (show w.heap.size ≤ g1 from by rw [hg]; exact below_size (by repeat first | (with_reducible first | exact HB.out | apply ba_ | apply bn_ | apply bd_) | exact HB.out)); clear HB ; have HB := n_; clear n_ hb hbox hg)
      | (((with_reducible refine gate_dst (N := 11) rfl ?_); refine Kd.R_lit (Kd.int .i64) w.heap.size 3 (w0 := w) ?hg (N := 11) ?hd (xs := []) (inner := []) (ok := fun _ => True) (okp := fun _ => True) ?hr ?hp (fun _ hk => hk) trivial (by repeat first | (with_reducible first | exact HB.out | apply ba_ | apply bn_ | apply bd_) | exact HB.out) (below_size (by repeat first | (with_reducible first | exact HB.out | apply ba_ | apply bn_ | apply bd_) | exact HB.out)) (by simp) ?_; (case hd => rfl); (case hg => rfl); (case hr => first | (go_simp; done) | (go_simp; rfl)); (case hp => exact (Reps.none _ _)); intro v1 w1 ho hb hgr hnw); have HOUT := am_ ho; have n_ := am_ (blk_grown BKg1.out hgr (by simp)); clear BKg1 HB; have BKg1 := n_; have HB := am_ hb; clear n_ ho hb hgr hnw))
    refine (spec_l2Amounts.calls ka A0 c0 xs false _ (by repeat first | exact (Kd.C_below HR0.out HB.out) | with_reducible refine ca_ ?_ _ | with_reducible refine cn_ ?_ _ | with_reducible refine cd_ ?_) HC0.out G1.out).mono ?_
    rintro e2 w1 ⟨rfl, hb0⟩
    have hb := db_ hb0
    clear hb0
    replace HOUT := am_ (Kd.R_below (by (with_reducible repeat first | apply ra_ | apply rn_ | apply rd_); exact HOUT.out) hb); replace BKg1 := am_ (blk_below (blk_below BKg1.out (by repeat first | exact Below.refl _ _ | apply ba_ | apply bn_ | apply bd_)) hb); replace HB := am_ (below_step (by repeat first | (with_reducible first | exact HB.out | apply ba_ | apply bn_ | apply bd_) | exact HB.out) hb); clear hb
    go_wp2
    go_ret2
    exact ⟨_, rfl, (by (with_reducible repeat first | apply ra_ | apply rn_ | apply rd_); exact HOUT.out), (by repeat first | (with_reducible first | exact HB.out | apply ba_ | apply bn_ | apply bd_ | refine below_set ?_ GEg1.out) | exact HB.out)⟩
set_option maxHeartbeats 8000000 in
set_option maxRecDepth 100000 in
theorem callI_c (e h i t m r : Int) (w : World) :
    Calls Try.prog 23 #[.int .i64 e, .int .i64 h, .agg #[.int .i64 i, .int .i64 t, .int .i64 m, .int .i64 r]] w fun e2 w' => e2 = .returned (.tuple #[.int .i64 (callA e h i t m r).1, .bool (callA e h i t m r).2]) ∧ Below w.heap.size w w' := by
  have HB := am_ (Below.refl w.heap.size w)
  obtain ⟨kq, hq⟩ := roundsOf (implRequired_ev e i t m r)
  have hin := within_eq h 0 1000000000
  by_cases c : reqOk e i t m r
  · have hbr := max0_bd (e + i - t)
    have hok := c.2.1
    obtain ⟨⟨i0, i1⟩, ⟨t0, t1⟩, ⟨m0, m1⟩, ⟨r0, r1⟩⟩ := hok
    have hc2 := c.2.2
    rw [reqA_yes c] at hq
    obtain ⟨RQ, hRQ⟩ : ∃ q, q = max0 (e + i - t) := ⟨_, rfl⟩
    have hA : callA e h i t m r = if 0 ≤ h ∧ h ≤ 1000000000 then callEnd (callN (RQ - h) r) m else (0, false) := by
      unfold callA
      by_cases ch : 0 ≤ h ∧ h ≤ 1000000000
      · rw [if_pos ⟨c, ch⟩, if_pos ch, hRQ]
      · rw [if_neg (fun g => ch g.2), if_neg ch]
    rw [← hRQ] at hq hbr
    have rq0 : 0 ≤ RQ := hbr.1
    have rq1 : RQ ≤ 1000000000 := hbr.2.1 hc2
    rw [hA]
    have HQ := am_ hq
    clear hq hbr hc2 hA hRQ c
    by_cases ch : 0 ≤ h ∧ h ≤ 1000000000
    · rw [if_pos ch]
      rw [decide_eq_true ch] at hin
      have HIN := am_ hin
      have h0 := ch.1
      have h1 := ch.2
      clear hin ch
      obtain ⟨d, hd_⟩ : ∃ d, RQ = d + h := ⟨RQ - h, by omega⟩
      subst hd_
      rw [show d + h - h = d from by omega]
      have hwd : IntKind.i64.wrap (d + h - h) = d := by rw [show d + h - h = d from by omega]; exact IntWalk.i64_in _ (by omega)
      obtain ⟨q1, n1, q2, n2, ⟨a1, a2, a3, a4, a5, a6⟩, hneg, hc1, hc2, hc3⟩ := call_parts d m r (by omega) ⟨r0, r1⟩
      have hrz : ¬ (r = 0) := by omega
      have hrz2 : ((r : Int) == 0) = false := by rw [beq_eq_false_iff_ne]; omega
      have hw1 : IntKind.i64.wrap (q1 * r) = n1 := by rw [a2]; exact IntWalk.i64_in _ (by omega)
      have hw1' : IntKind.i64.wrap q1 = q1 := IntWalk.i64_in _ (by omega)
      by_cases q : 0 < d
      · have cd : decide (0 < d) = true := decide_eq_true q
        obtain ⟨hN, hN0⟩ := hc2 (by omega)
        obtain ⟨N, hNe⟩ : ∃ N, N = n1 := ⟨_, rfl⟩
        rw [hN, ← hNe]
        have hNb : 0 ≤ N ∧ N ≤ 4000000000 := by omega
        subst hNe
        have hE : callEnd N m = if N < m then (0, true) else if -1000000000 ≤ N ∧ N ≤ 1000000000 then (N, true) else (0, false) := by unfold callEnd; rw [show absI N = N from if_neg (by omega)]
        rw [hE]
        clear hN hE
        clear hneg hc1 hc2 hc3 a2 a3 a4 q
        by_cases q3 : N < m
        · rw [if_pos q3]
          have cm : decide (N < m) = true := decide_eq_true q3
          clear q3
          have ha := isAmount_eq 0
          rw [decide_eq_true (by omega)] at ha
          have HA := am_ ha
          clear ha
          go_enter Try.func23, Try.ntmps23
          go_wp2_with ((((with_reducible refine gate_dst (N := 5) rfl ?_); refine box_event ?hg (N := 5) ?hd (cs := #[.int .i64 i, .int .i64 t, .int .i64 m, .int .i64 r]) (t := 26) ?hr ?_; (case hd => rfl); (case hg => rfl); (case hr => first | (go_simp; done) | (go_simp; rfl))); intro g1 hg w_g1 hbox hb; have n_ := am_ (below_step (by repeat first | (with_reducible first | exact HB.out | apply ba_ | apply bn_ | apply bd_) | exact HB.out) hb); have BKg1 := am_ hbox; have GEg1 := am_ (show w.heap.size ≤ g1 from by rw [hg]; exact below_size (by repeat first | (with_reducible first | exact HB.out | apply ba_ | apply bn_ | apply bd_) | exact HB.out)); clear HB ; have HB := n_; clear n_ hb hbox hg); have yg1_0 : w_g1.cell? ⟨g1, 0, none⟩ = some (.int .i64 i) := (blk_cell BKg1.out 0).trans rfl; have fg1_0 := blk_frozen BKg1.out 0; have yg1_1 : w_g1.cell? ⟨g1, 1, none⟩ = some (.int .i64 t) := (blk_cell BKg1.out 1).trans rfl; have fg1_1 := blk_frozen BKg1.out 1; have yg1_2 : w_g1.cell? ⟨g1, 2, none⟩ = some (.int .i64 m) := (blk_cell BKg1.out 2).trans rfl; have fg1_2 := blk_frozen BKg1.out 2; have yg1_3 : w_g1.cell? ⟨g1, 3, none⟩ = some (.int .i64 r) := (blk_cell BKg1.out 3).trans rfl; have fg1_3 := blk_frozen BKg1.out 3)
          clear yg1_0 fg1_0 yg1_1 fg1_1 yg1_2 fg1_2 yg1_3 fg1_3
          refine (impl_RequiredAmount.calls kq e i t m r _ _ _ HQ.out).mono ?_
          rintro e2 w1 ⟨rfl, hb⟩
          replace BKg1 := am_ (blk_below (blk_below BKg1.out (by repeat first | exact Below.refl _ _ | apply ba_ | apply bn_ | apply bd_)) hb); replace HB := am_ (below_step (by repeat first | (with_reducible first | exact HB.out | apply ba_ | apply bn_ | apply bd_) | exact HB.out) hb); clear hb
          have yg1_0 : w1.cell? ⟨g1, 0, none⟩ = some (.int .i64 i) := (blk_cell BKg1.out 0).trans rfl; have fg1_0 := blk_frozen BKg1.out 0; have yg1_1 : w1.cell? ⟨g1, 1, none⟩ = some (.int .i64 t) := (blk_cell BKg1.out 1).trans rfl; have fg1_1 := blk_frozen BKg1.out 1; have yg1_2 : w1.cell? ⟨g1, 2, none⟩ = some (.int .i64 m) := (blk_cell BKg1.out 2).trans rfl; have fg1_2 := blk_frozen BKg1.out 2; have yg1_3 : w1.cell? ⟨g1, 3, none⟩ = some (.int .i64 r) := (blk_cell BKg1.out 3).trans rfl; have fg1_3 := blk_frozen BKg1.out 3
          go_wp2_with fail
          clear yg1_0 fg1_0 yg1_1 fg1_1 yg1_2 fg1_2 yg1_3 fg1_3
          refine (impl_within.calls h 0 1000000000 true _ HIN.out).mono ?_
          rintro e2 w2 ⟨rfl, hb0⟩
          have hb := db_ hb0
          clear hb0
          replace BKg1 := am_ (blk_below (blk_below BKg1.out (by repeat first | exact Below.refl _ _ | apply ba_ | apply bn_ | apply bd_)) hb); replace HB := am_ (below_step (by repeat first | (with_reducible first | exact HB.out | apply ba_ | apply bn_ | apply bd_) | exact HB.out) hb); clear hb
          have yg1_0 : w2.cell? ⟨g1, 0, none⟩ = some (.int .i64 i) := (blk_cell BKg1.out 0).trans rfl; have fg1_0 := blk_frozen BKg1.out 0; have yg1_1 : w2.cell? ⟨g1, 1, none⟩ = some (.int .i64 t) := (blk_cell BKg1.out 1).trans rfl; have fg1_1 := blk_frozen BKg1.out 1; have yg1_2 : w2.cell? ⟨g1, 2, none⟩ = some (.int .i64 m) := (blk_cell BKg1.out 2).trans rfl; have fg1_2 := blk_frozen BKg1.out 2; have yg1_3 : w2.cell? ⟨g1, 3, none⟩ = some (.int .i64 r) := (blk_cell BKg1.out 3).trans rfl; have fg1_3 := blk_frozen BKg1.out 3
          go_wp2_with fail
          go_quiet (fail)
          go_wp2_with fail
          refine (impl_isAmount.calls 0 true _ HA.out).mono ?_
          rintro e2 w4 ⟨rfl, ⟨nq2, rfl⟩⟩
          go_wp2
          go_ret2
          exact ⟨by first | rfl | (congr 4; omega), (by repeat first | (with_reducible first | exact HB.out | apply ba_ | apply bn_ | apply bd_ | refine below_set ?_ GEg1.out) | exact HB.out)⟩
        · rw [if_neg q3]
          have cm : decide (N < m) = false := decide_eq_false q3
          clear q3
          have ha := isAmount_eq N
          by_cases q4 : -1000000000 ≤ N ∧ N ≤ 1000000000
          · rw [if_pos q4]
            rw [decide_eq_true q4] at ha
            have HA := am_ ha
            clear ha q4
            go_enter Try.func23, Try.ntmps23
            go_wp2_with ((((with_reducible refine gate_dst (N := 5) rfl ?_); refine box_event ?hg (N := 5) ?hd (cs := #[.int .i64 i, .int .i64 t, .int .i64 m, .int .i64 r]) (t := 26) ?hr ?_; (case hd => rfl); (case hg => rfl); (case hr => first | (go_simp; done) | (go_simp; rfl))); intro g1 hg w_g1 hbox hb; have n_ := am_ (below_step (by repeat first | (with_reducible first | exact HB.out | apply ba_ | apply bn_ | apply bd_) | exact HB.out) hb); have BKg1 := am_ hbox; have GEg1 := am_ (show w.heap.size ≤ g1 from by rw [hg]; exact below_size (by repeat first | (with_reducible first | exact HB.out | apply ba_ | apply bn_ | apply bd_) | exact HB.out)); clear HB ; have HB := n_; clear n_ hb hbox hg); have yg1_0 : w_g1.cell? ⟨g1, 0, none⟩ = some (.int .i64 i) := (blk_cell BKg1.out 0).trans rfl; have fg1_0 := blk_frozen BKg1.out 0; have yg1_1 : w_g1.cell? ⟨g1, 1, none⟩ = some (.int .i64 t) := (blk_cell BKg1.out 1).trans rfl; have fg1_1 := blk_frozen BKg1.out 1; have yg1_2 : w_g1.cell? ⟨g1, 2, none⟩ = some (.int .i64 m) := (blk_cell BKg1.out 2).trans rfl; have fg1_2 := blk_frozen BKg1.out 2; have yg1_3 : w_g1.cell? ⟨g1, 3, none⟩ = some (.int .i64 r) := (blk_cell BKg1.out 3).trans rfl; have fg1_3 := blk_frozen BKg1.out 3)
            clear yg1_0 fg1_0 yg1_1 fg1_1 yg1_2 fg1_2 yg1_3 fg1_3
            refine (impl_RequiredAmount.calls kq e i t m r _ _ _ HQ.out).mono ?_
            rintro e2 w1 ⟨rfl, hb⟩
            replace BKg1 := am_ (blk_below (blk_below BKg1.out (by repeat first | exact Below.refl _ _ | apply ba_ | apply bn_ | apply bd_)) hb); replace HB := am_ (below_step (by repeat first | (with_reducible first | exact HB.out | apply ba_ | apply bn_ | apply bd_) | exact HB.out) hb); clear hb
            have yg1_0 : w1.cell? ⟨g1, 0, none⟩ = some (.int .i64 i) := (blk_cell BKg1.out 0).trans rfl; have fg1_0 := blk_frozen BKg1.out 0; have yg1_1 : w1.cell? ⟨g1, 1, none⟩ = some (.int .i64 t) := (blk_cell BKg1.out 1).trans rfl; have fg1_1 := blk_frozen BKg1.out 1; have yg1_2 : w1.cell? ⟨g1, 2, none⟩ = some (.int .i64 m) := (blk_cell BKg1.out 2).trans rfl; have fg1_2 := blk_frozen BKg1.out 2; have yg1_3 : w1.cell? ⟨g1, 3, none⟩ = some (.int .i64 r) := (blk_cell BKg1.out 3).trans rfl; have fg1_3 := blk_frozen BKg1.out 3
            go_wp2_with fail
            clear yg1_0 fg1_0 yg1_1 fg1_1 yg1_2 fg1_2 yg1_3 fg1_3
            refine (impl_within.calls h 0 1000000000 true _ HIN.out).mono ?_
            rintro e2 w2 ⟨rfl, hb0⟩
            have hb := db_ hb0
            clear hb0
            replace BKg1 := am_ (blk_below (blk_below BKg1.out (by repeat first | exact Below.refl _ _ | apply ba_ | apply bn_ | apply bd_)) hb); replace HB := am_ (below_step (by repeat first | (with_reducible first | exact HB.out | apply ba_ | apply bn_ | apply bd_) | exact HB.out) hb); clear hb
            have yg1_0 : w2.cell? ⟨g1, 0, none⟩ = some (.int .i64 i) := (blk_cell BKg1.out 0).trans rfl; have fg1_0 := blk_frozen BKg1.out 0; have yg1_1 : w2.cell? ⟨g1, 1, none⟩ = some (.int .i64 t) := (blk_cell BKg1.out 1).trans rfl; have fg1_1 := blk_frozen BKg1.out 1; have yg1_2 : w2.cell? ⟨g1, 2, none⟩ = some (.int .i64 m) := (blk_cell BKg1.out 2).trans rfl; have fg1_2 := blk_frozen BKg1.out 2; have yg1_3 : w2.cell? ⟨g1, 3, none⟩ = some (.int .i64 r) := (blk_cell BKg1.out 3).trans rfl; have fg1_3 := blk_frozen BKg1.out 3
            go_wp2_with fail
            go_quiet (fail)
            go_wp2_with fail
            refine (impl_isAmount.calls N true _ HA.out).mono ?_
            rintro e2 w4 ⟨rfl, ⟨nq2, rfl⟩⟩
            go_wp2
            go_ret2
            exact ⟨by first | rfl | (congr 4; omega), (by repeat first | (with_reducible first | exact HB.out | apply ba_ | apply bn_ | apply bd_ | refine below_set ?_ GEg1.out) | exact HB.out)⟩
          · rw [if_neg q4]
            rw [decide_eq_false q4] at ha
            have HA := am_ ha
            clear ha q4
            go_enter Try.func23, Try.ntmps23
            go_wp2_with ((((with_reducible refine gate_dst (N := 5) rfl ?_); refine box_event ?hg (N := 5) ?hd (cs := #[.int .i64 i, .int .i64 t, .int .i64 m, .int .i64 r]) (t := 26) ?hr ?_; (case hd => rfl); (case hg => rfl); (case hr => first | (go_simp; done) | (go_simp; rfl))); intro g1 hg w_g1 hbox hb; have n_ := am_ (below_step (by repeat first | (with_reducible first | exact HB.out | apply ba_ | apply bn_ | apply bd_) | exact HB.out) hb); have BKg1 := am_ hbox; have GEg1 := am_ (show w.heap.size ≤ g1 from by rw [hg]; exact below_size (by repeat first | (with_reducible first | exact HB.out | apply ba_ | apply bn_ | apply bd_) | exact HB.out)); clear HB ; have HB := n_; clear n_ hb hbox hg); have yg1_0 : w_g1.cell? ⟨g1, 0, none⟩ = some (.int .i64 i) := (blk_cell BKg1.out 0).trans rfl; have fg1_0 := blk_frozen BKg1.out 0; have yg1_1 : w_g1.cell? ⟨g1, 1, none⟩ = some (.int .i64 t) := (blk_cell BKg1.out 1).trans rfl; have fg1_1 := blk_frozen BKg1.out 1; have yg1_2 : w_g1.cell? ⟨g1, 2, none⟩ = some (.int .i64 m) := (blk_cell BKg1.out 2).trans rfl; have fg1_2 := blk_frozen BKg1.out 2; have yg1_3 : w_g1.cell? ⟨g1, 3, none⟩ = some (.int .i64 r) := (blk_cell BKg1.out 3).trans rfl; have fg1_3 := blk_frozen BKg1.out 3)
            clear yg1_0 fg1_0 yg1_1 fg1_1 yg1_2 fg1_2 yg1_3 fg1_3
            refine (impl_RequiredAmount.calls kq e i t m r _ _ _ HQ.out).mono ?_
            rintro e2 w1 ⟨rfl, hb⟩
            replace BKg1 := am_ (blk_below (blk_below BKg1.out (by repeat first | exact Below.refl _ _ | apply ba_ | apply bn_ | apply bd_)) hb); replace HB := am_ (below_step (by repeat first | (with_reducible first | exact HB.out | apply ba_ | apply bn_ | apply bd_) | exact HB.out) hb); clear hb
            have yg1_0 : w1.cell? ⟨g1, 0, none⟩ = some (.int .i64 i) := (blk_cell BKg1.out 0).trans rfl; have fg1_0 := blk_frozen BKg1.out 0; have yg1_1 : w1.cell? ⟨g1, 1, none⟩ = some (.int .i64 t) := (blk_cell BKg1.out 1).trans rfl; have fg1_1 := blk_frozen BKg1.out 1; have yg1_2 : w1.cell? ⟨g1, 2, none⟩ = some (.int .i64 m) := (blk_cell BKg1.out 2).trans rfl; have fg1_2 := blk_frozen BKg1.out 2; have yg1_3 : w1.cell? ⟨g1, 3, none⟩ = some (.int .i64 r) := (blk_cell BKg1.out 3).trans rfl; have fg1_3 := blk_frozen BKg1.out 3
            go_wp2_with fail
            clear yg1_0 fg1_0 yg1_1 fg1_1 yg1_2 fg1_2 yg1_3 fg1_3
            refine (impl_within.calls h 0 1000000000 true _ HIN.out).mono ?_
            rintro e2 w2 ⟨rfl, hb0⟩
            have hb := db_ hb0
            clear hb0
            replace BKg1 := am_ (blk_below (blk_below BKg1.out (by repeat first | exact Below.refl _ _ | apply ba_ | apply bn_ | apply bd_)) hb); replace HB := am_ (below_step (by repeat first | (with_reducible first | exact HB.out | apply ba_ | apply bn_ | apply bd_) | exact HB.out) hb); clear hb
            have yg1_0 : w2.cell? ⟨g1, 0, none⟩ = some (.int .i64 i) := (blk_cell BKg1.out 0).trans rfl; have fg1_0 := blk_frozen BKg1.out 0; have yg1_1 : w2.cell? ⟨g1, 1, none⟩ = some (.int .i64 t) := (blk_cell BKg1.out 1).trans rfl; have fg1_1 := blk_frozen BKg1.out 1; have yg1_2 : w2.cell? ⟨g1, 2, none⟩ = some (.int .i64 m) := (blk_cell BKg1.out 2).trans rfl; have fg1_2 := blk_frozen BKg1.out 2; have yg1_3 : w2.cell? ⟨g1, 3, none⟩ = some (.int .i64 r) := (blk_cell BKg1.out 3).trans rfl; have fg1_3 := blk_frozen BKg1.out 3
            go_wp2_with fail
            go_quiet (fail)
            go_wp2_with fail
            refine (impl_isAmount.calls N false _ HA.out).mono ?_
            rintro e2 w4 ⟨rfl, ⟨nq2, rfl⟩⟩
            go_wp2
            go_ret2
            exact ⟨by first | rfl | (congr 4; omega), (by repeat first | (with_reducible first | exact HB.out | apply ba_ | apply bn_ | apply bd_ | refine below_set ?_ GEg1.out) | exact HB.out)⟩
      · have cd : decide (0 < d) = false := decide_eq_false q
        obtain ⟨b1, b2, b3, b4, b5, b6⟩ := hneg (by omega)
        have hw2 : IntKind.i64.wrap (q2 * r) = n2 := by rw [b2]; exact IntWalk.i64_in _ (by omega)
        have hw2' : IntKind.i64.wrap q2 = q2 := IntWalk.i64_in _ (by omega)
        have hN : callN d r = -n2 := by
          rcases Int.lt_or_le d 0 with g | g
          · exact hc1 g
          · have := (hc2 g).1; have := hc3 (by omega); omega
        obtain ⟨N, hNe⟩ : ∃ N, N = n2 := ⟨_, rfl⟩
        rw [hN, ← hNe]
        have hNb : 0 ≤ N ∧ N ≤ 1000000000 := by omega
        subst hNe
        have hE : callEnd (-N) m = if N < m then (0, true) else if -1000000000 ≤ N ∧ N ≤ 1000000000 then (-N, true) else (0, false) := by
          have e1 : absI (-N) = N := by unfold absI; split <;> omega
          unfold callEnd
          rw [e1]
          · by_cases g2 : N < m
            · rw [if_pos g2, if_pos g2]
            · rw [if_neg g2, if_neg g2, if_pos (by omega), if_pos (by omega)]
        rw [hE]
        clear hN hE b2 b3 b4
        clear hneg hc1 hc2 hc3 a2 a3 a4 q
        by_cases q3 : N < m
        · rw [if_pos q3]
          have cm : decide (N < m) = true := decide_eq_true q3
          clear q3
          have ha := isAmount_eq 0
          rw [decide_eq_true (by omega)] at ha
          have HA := am_ ha
          clear ha
          go_enter Try.func23, Try.ntmps23
          go_wp2_with ((((with_reducible refine gate_dst (N := 5) rfl ?_); refine box_event ?hg (N := 5) ?hd (cs := #[.int .i64 i, .int .i64 t, .int .i64 m, .int .i64 r]) (t := 26) ?hr ?_; (case hd => rfl); (case hg => rfl); (case hr => first | (go_simp; done) | (go_simp; rfl))); intro g1 hg w_g1 hbox hb; have n_ := am_ (below_step (by repeat first | (with_reducible first | exact HB.out | apply ba_ | apply bn_ | apply bd_) | exact HB.out) hb); have BKg1 := am_ hbox; have GEg1 := am_ (show w.heap.size ≤ g1 from by rw [hg]; exact below_size (by repeat first | (with_reducible first | exact HB.out | apply ba_ | apply bn_ | apply bd_) | exact HB.out)); clear HB ; have HB := n_; clear n_ hb hbox hg); have yg1_0 : w_g1.cell? ⟨g1, 0, none⟩ = some (.int .i64 i) := (blk_cell BKg1.out 0).trans rfl; have fg1_0 := blk_frozen BKg1.out 0; have yg1_1 : w_g1.cell? ⟨g1, 1, none⟩ = some (.int .i64 t) := (blk_cell BKg1.out 1).trans rfl; have fg1_1 := blk_frozen BKg1.out 1; have yg1_2 : w_g1.cell? ⟨g1, 2, none⟩ = some (.int .i64 m) := (blk_cell BKg1.out 2).trans rfl; have fg1_2 := blk_frozen BKg1.out 2; have yg1_3 : w_g1.cell? ⟨g1, 3, none⟩ = some (.int .i64 r) := (blk_cell BKg1.out 3).trans rfl; have fg1_3 := blk_frozen BKg1.out 3)
          clear yg1_0 fg1_0 yg1_1 fg1_1 yg1_2 fg1_2 yg1_3 fg1_3
          refine (impl_RequiredAmount.calls kq e i t m r _ _ _ HQ.out).mono ?_
          rintro e2 w1 ⟨rfl, hb⟩
          replace BKg1 := am_ (blk_below (blk_below BKg1.out (by repeat first | exact Below.refl _ _ | apply ba_ | apply bn_ | apply bd_)) hb); replace HB := am_ (below_step (by repeat first | (with_reducible first | exact HB.out | apply ba_ | apply bn_ | apply bd_) | exact HB.out) hb); clear hb
          have yg1_0 : w1.cell? ⟨g1, 0, none⟩ = some (.int .i64 i) := (blk_cell BKg1.out 0).trans rfl; have fg1_0 := blk_frozen BKg1.out 0; have yg1_1 : w1.cell? ⟨g1, 1, none⟩ = some (.int .i64 t) := (blk_cell BKg1.out 1).trans rfl; have fg1_1 := blk_frozen BKg1.out 1; have yg1_2 : w1.cell? ⟨g1, 2, none⟩ = some (.int .i64 m) := (blk_cell BKg1.out 2).trans rfl; have fg1_2 := blk_frozen BKg1.out 2; have yg1_3 : w1.cell? ⟨g1, 3, none⟩ = some (.int .i64 r) := (blk_cell BKg1.out 3).trans rfl; have fg1_3 := blk_frozen BKg1.out 3
          go_wp2_with fail
          clear yg1_0 fg1_0 yg1_1 fg1_1 yg1_2 fg1_2 yg1_3 fg1_3
          refine (impl_within.calls h 0 1000000000 true _ HIN.out).mono ?_
          rintro e2 w2 ⟨rfl, hb0⟩
          have hb := db_ hb0
          clear hb0
          replace BKg1 := am_ (blk_below (blk_below BKg1.out (by repeat first | exact Below.refl _ _ | apply ba_ | apply bn_ | apply bd_)) hb); replace HB := am_ (below_step (by repeat first | (with_reducible first | exact HB.out | apply ba_ | apply bn_ | apply bd_) | exact HB.out) hb); clear hb
          have yg1_0 : w2.cell? ⟨g1, 0, none⟩ = some (.int .i64 i) := (blk_cell BKg1.out 0).trans rfl; have fg1_0 := blk_frozen BKg1.out 0; have yg1_1 : w2.cell? ⟨g1, 1, none⟩ = some (.int .i64 t) := (blk_cell BKg1.out 1).trans rfl; have fg1_1 := blk_frozen BKg1.out 1; have yg1_2 : w2.cell? ⟨g1, 2, none⟩ = some (.int .i64 m) := (blk_cell BKg1.out 2).trans rfl; have fg1_2 := blk_frozen BKg1.out 2; have yg1_3 : w2.cell? ⟨g1, 3, none⟩ = some (.int .i64 r) := (blk_cell BKg1.out 3).trans rfl; have fg1_3 := blk_frozen BKg1.out 3
          go_wp2_with fail
          go_quiet (fail)
          go_wp2_with fail
          refine (impl_isAmount.calls 0 true _ HA.out).mono ?_
          rintro e2 w4 ⟨rfl, ⟨nq2, rfl⟩⟩
          go_wp2
          go_ret2
          exact ⟨by first | rfl | (congr 4; omega), (by repeat first | (with_reducible first | exact HB.out | apply ba_ | apply bn_ | apply bd_ | refine below_set ?_ GEg1.out) | exact HB.out)⟩
        · rw [if_neg q3]
          have cm : decide (N < m) = false := decide_eq_false q3
          clear q3
          have ha := isAmount_eq N
          by_cases q4 : -1000000000 ≤ N ∧ N ≤ 1000000000
          · rw [if_pos q4]
            rw [decide_eq_true q4] at ha
            have HA := am_ ha
            clear ha q4
            go_enter Try.func23, Try.ntmps23
            go_wp2_with ((((with_reducible refine gate_dst (N := 5) rfl ?_); refine box_event ?hg (N := 5) ?hd (cs := #[.int .i64 i, .int .i64 t, .int .i64 m, .int .i64 r]) (t := 26) ?hr ?_; (case hd => rfl); (case hg => rfl); (case hr => first | (go_simp; done) | (go_simp; rfl))); intro g1 hg w_g1 hbox hb; have n_ := am_ (below_step (by repeat first | (with_reducible first | exact HB.out | apply ba_ | apply bn_ | apply bd_) | exact HB.out) hb); have BKg1 := am_ hbox; have GEg1 := am_ (show w.heap.size ≤ g1 from by rw [hg]; exact below_size (by repeat first | (with_reducible first | exact HB.out | apply ba_ | apply bn_ | apply bd_) | exact HB.out)); clear HB ; have HB := n_; clear n_ hb hbox hg); have yg1_0 : w_g1.cell? ⟨g1, 0, none⟩ = some (.int .i64 i) := (blk_cell BKg1.out 0).trans rfl; have fg1_0 := blk_frozen BKg1.out 0; have yg1_1 : w_g1.cell? ⟨g1, 1, none⟩ = some (.int .i64 t) := (blk_cell BKg1.out 1).trans rfl; have fg1_1 := blk_frozen BKg1.out 1; have yg1_2 : w_g1.cell? ⟨g1, 2, none⟩ = some (.int .i64 m) := (blk_cell BKg1.out 2).trans rfl; have fg1_2 := blk_frozen BKg1.out 2; have yg1_3 : w_g1.cell? ⟨g1, 3, none⟩ = some (.int .i64 r) := (blk_cell BKg1.out 3).trans rfl; have fg1_3 := blk_frozen BKg1.out 3)
            clear yg1_0 fg1_0 yg1_1 fg1_1 yg1_2 fg1_2 yg1_3 fg1_3
            refine (impl_RequiredAmount.calls kq e i t m r _ _ _ HQ.out).mono ?_
            rintro e2 w1 ⟨rfl, hb⟩
            replace BKg1 := am_ (blk_below (blk_below BKg1.out (by repeat first | exact Below.refl _ _ | apply ba_ | apply bn_ | apply bd_)) hb); replace HB := am_ (below_step (by repeat first | (with_reducible first | exact HB.out | apply ba_ | apply bn_ | apply bd_) | exact HB.out) hb); clear hb
            have yg1_0 : w1.cell? ⟨g1, 0, none⟩ = some (.int .i64 i) := (blk_cell BKg1.out 0).trans rfl; have fg1_0 := blk_frozen BKg1.out 0; have yg1_1 : w1.cell? ⟨g1, 1, none⟩ = some (.int .i64 t) := (blk_cell BKg1.out 1).trans rfl; have fg1_1 := blk_frozen BKg1.out 1; have yg1_2 : w1.cell? ⟨g1, 2, none⟩ = some (.int .i64 m) := (blk_cell BKg1.out 2).trans rfl; have fg1_2 := blk_frozen BKg1.out 2; have yg1_3 : w1.cell? ⟨g1, 3, none⟩ = some (.int .i64 r) := (blk_cell BKg1.out 3).trans rfl; have fg1_3 := blk_frozen BKg1.out 3
            go_wp2_with fail
            clear yg1_0 fg1_0 yg1_1 fg1_1 yg1_2 fg1_2 yg1_3 fg1_3
            refine (impl_within.calls h 0 1000000000 true _ HIN.out).mono ?_
            rintro e2 w2 ⟨rfl, hb0⟩
            have hb := db_ hb0
            clear hb0
            replace BKg1 := am_ (blk_below (blk_below BKg1.out (by repeat first | exact Below.refl _ _ | apply ba_ | apply bn_ | apply bd_)) hb); replace HB := am_ (below_step (by repeat first | (with_reducible first | exact HB.out | apply ba_ | apply bn_ | apply bd_) | exact HB.out) hb); clear hb
            have yg1_0 : w2.cell? ⟨g1, 0, none⟩ = some (.int .i64 i) := (blk_cell BKg1.out 0).trans rfl; have fg1_0 := blk_frozen BKg1.out 0; have yg1_1 : w2.cell? ⟨g1, 1, none⟩ = some (.int .i64 t) := (blk_cell BKg1.out 1).trans rfl; have fg1_1 := blk_frozen BKg1.out 1; have yg1_2 : w2.cell? ⟨g1, 2, none⟩ = some (.int .i64 m) := (blk_cell BKg1.out 2).trans rfl; have fg1_2 := blk_frozen BKg1.out 2; have yg1_3 : w2.cell? ⟨g1, 3, none⟩ = some (.int .i64 r) := (blk_cell BKg1.out 3).trans rfl; have fg1_3 := blk_frozen BKg1.out 3
            go_wp2_with fail
            go_quiet (fail)
            go_wp2_with fail
            refine (impl_isAmount.calls N true _ HA.out).mono ?_
            rintro e2 w4 ⟨rfl, ⟨nq2, rfl⟩⟩
            go_wp2
            go_ret2
            exact ⟨by first | rfl | (congr 4; omega), (by repeat first | (with_reducible first | exact HB.out | apply ba_ | apply bn_ | apply bd_ | refine below_set ?_ GEg1.out) | exact HB.out)⟩
          · rw [if_neg q4]
            rw [decide_eq_false q4] at ha
            have HA := am_ ha
            clear ha q4
            go_enter Try.func23, Try.ntmps23
            go_wp2_with ((((with_reducible refine gate_dst (N := 5) rfl ?_); refine box_event ?hg (N := 5) ?hd (cs := #[.int .i64 i, .int .i64 t, .int .i64 m, .int .i64 r]) (t := 26) ?hr ?_; (case hd => rfl); (case hg => rfl); (case hr => first | (go_simp; done) | (go_simp; rfl))); intro g1 hg w_g1 hbox hb; have n_ := am_ (below_step (by repeat first | (with_reducible first | exact HB.out | apply ba_ | apply bn_ | apply bd_) | exact HB.out) hb); have BKg1 := am_ hbox; have GEg1 := am_ (show w.heap.size ≤ g1 from by rw [hg]; exact below_size (by repeat first | (with_reducible first | exact HB.out | apply ba_ | apply bn_ | apply bd_) | exact HB.out)); clear HB ; have HB := n_; clear n_ hb hbox hg); have yg1_0 : w_g1.cell? ⟨g1, 0, none⟩ = some (.int .i64 i) := (blk_cell BKg1.out 0).trans rfl; have fg1_0 := blk_frozen BKg1.out 0; have yg1_1 : w_g1.cell? ⟨g1, 1, none⟩ = some (.int .i64 t) := (blk_cell BKg1.out 1).trans rfl; have fg1_1 := blk_frozen BKg1.out 1; have yg1_2 : w_g1.cell? ⟨g1, 2, none⟩ = some (.int .i64 m) := (blk_cell BKg1.out 2).trans rfl; have fg1_2 := blk_frozen BKg1.out 2; have yg1_3 : w_g1.cell? ⟨g1, 3, none⟩ = some (.int .i64 r) := (blk_cell BKg1.out 3).trans rfl; have fg1_3 := blk_frozen BKg1.out 3)
            clear yg1_0 fg1_0 yg1_1 fg1_1 yg1_2 fg1_2 yg1_3 fg1_3
            refine (impl_RequiredAmount.calls kq e i t m r _ _ _ HQ.out).mono ?_
            rintro e2 w1 ⟨rfl, hb⟩
            replace BKg1 := am_ (blk_below (blk_below BKg1.out (by repeat first | exact Below.refl _ _ | apply ba_ | apply bn_ | apply bd_)) hb); replace HB := am_ (below_step (by repeat first | (with_reducible first | exact HB.out | apply ba_ | apply bn_ | apply bd_) | exact HB.out) hb); clear hb
            have yg1_0 : w1.cell? ⟨g1, 0, none⟩ = some (.int .i64 i) := (blk_cell BKg1.out 0).trans rfl; have fg1_0 := blk_frozen BKg1.out 0; have yg1_1 : w1.cell? ⟨g1, 1, none⟩ = some (.int .i64 t) := (blk_cell BKg1.out 1).trans rfl; have fg1_1 := blk_frozen BKg1.out 1; have yg1_2 : w1.cell? ⟨g1, 2, none⟩ = some (.int .i64 m) := (blk_cell BKg1.out 2).trans rfl; have fg1_2 := blk_frozen BKg1.out 2; have yg1_3 : w1.cell? ⟨g1, 3, none⟩ = some (.int .i64 r) := (blk_cell BKg1.out 3).trans rfl; have fg1_3 := blk_frozen BKg1.out 3
            go_wp2_with fail
            clear yg1_0 fg1_0 yg1_1 fg1_1 yg1_2 fg1_2 yg1_3 fg1_3
            refine (impl_within.calls h 0 1000000000 true _ HIN.out).mono ?_
            rintro e2 w2 ⟨rfl, hb0⟩
            have hb := db_ hb0
            clear hb0
            replace BKg1 := am_ (blk_below (blk_below BKg1.out (by repeat first | exact Below.refl _ _ | apply ba_ | apply bn_ | apply bd_)) hb); replace HB := am_ (below_step (by repeat first | (with_reducible first | exact HB.out | apply ba_ | apply bn_ | apply bd_) | exact HB.out) hb); clear hb
            have yg1_0 : w2.cell? ⟨g1, 0, none⟩ = some (.int .i64 i) := (blk_cell BKg1.out 0).trans rfl; have fg1_0 := blk_frozen BKg1.out 0; have yg1_1 : w2.cell? ⟨g1, 1, none⟩ = some (.int .i64 t) := (blk_cell BKg1.out 1).trans rfl; have fg1_1 := blk_frozen BKg1.out 1; have yg1_2 : w2.cell? ⟨g1, 2, none⟩ = some (.int .i64 m) := (blk_cell BKg1.out 2).trans rfl; have fg1_2 := blk_frozen BKg1.out 2; have yg1_3 : w2.cell? ⟨g1, 3, none⟩ = some (.int .i64 r) := (blk_cell BKg1.out 3).trans rfl; have fg1_3 := blk_frozen BKg1.out 3
            go_wp2_with fail
            go_quiet (fail)
            go_wp2_with fail
            refine (impl_isAmount.calls N false _ HA.out).mono ?_
            rintro e2 w4 ⟨rfl, ⟨nq2, rfl⟩⟩
            go_wp2
            go_ret2
            exact ⟨by first | rfl | (congr 4; omega), (by repeat first | (with_reducible first | exact HB.out | apply ba_ | apply bn_ | apply bd_ | refine below_set ?_ GEg1.out) | exact HB.out)⟩
    · rw [if_neg ch]
      rw [decide_eq_false ch] at hin
      have HIN := am_ hin
      clear hin ch
      go_enter Try.func23, Try.ntmps23
      go_wp2_with ((((with_reducible refine gate_dst (N := 5) rfl ?_); refine box_event ?hg (N := 5) ?hd (cs := #[.int .i64 i, .int .i64 t, .int .i64 m, .int .i64 r]) (t := 26) ?hr ?_; (case hd => rfl); (case hg => rfl); (case hr => first | (go_simp; done) | (go_simp; rfl))); intro g1 hg w_g1 hbox hb; have n_ := am_ (below_step (by repeat first | (with_reducible first | exact HB.out | apply ba_ | apply bn_ | apply bd_) | exact HB.out) hb); have BKg1 := am_ hbox; have GEg1 := am_ (show w.heap.size ≤ g1 from by rw [hg]; exact below_size (by repeat first | (with_reducible first | exact HB.out | apply ba_ | apply bn_ | apply bd_) | exact HB.out)); clear HB ; have HB := n_; clear n_ hb hbox hg); have yg1_0 : w_g1.cell? ⟨g1, 0, none⟩ = some (.int .i64 i) := (blk_cell BKg1.out 0).trans rfl; have fg1_0 := blk_frozen BKg1.out 0; have yg1_1 : w_g1.cell? ⟨g1, 1, none⟩ = some (.int .i64 t) := (blk_cell BKg1.out 1).trans rfl; have fg1_1 := blk_frozen BKg1.out 1; have yg1_2 : w_g1.cell? ⟨g1, 2, none⟩ = some (.int .i64 m) := (blk_cell BKg1.out 2).trans rfl; have fg1_2 := blk_frozen BKg1.out 2; have yg1_3 : w_g1.cell? ⟨g1, 3, none⟩ = some (.int .i64 r) := (blk_cell BKg1.out 3).trans rfl; have fg1_3 := blk_frozen BKg1.out 3)
      clear yg1_0 fg1_0 yg1_1 fg1_1 yg1_2 fg1_2 yg1_3 fg1_3
      refine (impl_RequiredAmount.calls kq e i t m r _ _ _ HQ.out).mono ?_
      rintro e2 w1 ⟨rfl, hb⟩
      replace BKg1 := am_ (blk_below (blk_below BKg1.out (by repeat first | exact Below.refl _ _ | apply ba_ | apply bn_ | apply bd_)) hb); replace HB := am_ (below_step (by repeat first | (with_reducible first | exact HB.out | apply ba_ | apply bn_ | apply bd_) | exact HB.out) hb); clear hb
      go_wp2_with fail
      refine (impl_within.calls h 0 1000000000 false _ HIN.out).mono ?_
      rintro e2 w2 ⟨rfl, hb0⟩
      have hb := db_ hb0
      clear hb0
      replace BKg1 := am_ (blk_below (blk_below BKg1.out (by repeat first | exact Below.refl _ _ | apply ba_ | apply bn_ | apply bd_)) hb); replace HB := am_ (below_step (by repeat first | (with_reducible first | exact HB.out | apply ba_ | apply bn_ | apply bd_) | exact HB.out) hb); clear hb
      go_wp2
      go_ret2
      exact ⟨rfl, (by repeat first | (with_reducible first | exact HB.out | apply ba_ | apply bn_ | apply bd_ | refine below_set ?_ GEg1.out) | exact HB.out)⟩
  · rw [reqA_no c] at hq
    have hA : callA e h i t m r = (0, false) := by unfold callA; rw [if_neg (fun g => c g.1)]
    rw [hA]
    have HQ := am_ hq
    clear hq hA c hin
    go_enter Try.func23, Try.ntmps23
    go_wp2_with ((((with_reducible refine gate_dst (N := 5) rfl ?_); refine box_event ?hg (N := 5) ?hd (cs := #[.int .i64 i, .int .i64 t, .int .i64 m, .int .i64 r]) (t := 26) ?hr ?_; (case hd => rfl); (case hg => rfl); (case hr => first | (go_simp; done) | (go_simp; rfl))); intro g1 hg w_g1 hbox hb; have n_ := am_ (below_step (by repeat first | (with_reducible first | exact HB.out | apply ba_ | apply bn_ | apply bd_) | exact HB.out) hb); have BKg1 := am_ hbox; have GEg1 := am_ (show w.heap.size ≤ g1 from by rw [hg]; exact below_size (by repeat first | (with_reducible first | exact HB.out | apply ba_ | apply bn_ | apply bd_) | exact HB.out)); clear HB ; have HB := n_; clear n_ hb hbox hg); have yg1_0 : w_g1.cell? ⟨g1, 0, none⟩ = some (.int .i64 i) := (blk_cell BKg1.out 0).trans rfl; have fg1_0 := blk_frozen BKg1.out 0; have yg1_1 : w_g1.cell? ⟨g1, 1, none⟩ = some (.int .i64 t) := (blk_cell BKg1.out 1).trans rfl; have fg1_1 := blk_frozen BKg1.out 1; have yg1_2 : w_g1.cell? ⟨g1, 2, none⟩ = some (.int .i64 m) := (blk_cell BKg1.out 2).trans rfl; have fg1_2 := blk_frozen BKg1.out 2; have yg1_3 : w_g1.cell? ⟨g1, 3, none⟩ = some (.int .i64 r) := (blk_cell BKg1.out 3).trans rfl; have fg1_3 := blk_frozen BKg1.out 3)
    clear yg1_0 fg1_0 yg1_1 fg1_1 yg1_2 fg1_2 yg1_3 fg1_3
    refine (impl_RequiredAmount.calls kq e i t m r _ _ _ HQ.out).mono ?_
    rintro e2 w1 ⟨rfl, hb⟩
    replace BKg1 := am_ (blk_below (blk_below BKg1.out (by repeat first | exact Below.refl _ _ | apply ba_ | apply bn_ | apply bd_)) hb); replace HB := am_ (below_step (by repeat first | (with_reducible first | exact HB.out | apply ba_ | apply bn_ | apply bd_) | exact HB.out) hb); clear hb
    go_wp2
    go_ret2
    exact ⟨rfl, (by repeat first | (with_reducible first | exact HB.out | apply ba_ | apply bn_ | apply bd_ | refine below_set ?_ GEg1.out) | exact HB.out)⟩
def Lcf_ren : Go.Shelf.Ren := ⟨fun | 6 => 74 | 8 => 61 | n => n, fun | 22 => 39 | 23 => 3 | 25 => 64 | n => n, fun | n => n⟩
theorem Lcf : Go.Proofs.SlLaysH.n8 Try.prog Lcf_ren := {
  mixed := by kernel_rfl,
  f6 := ⟨Try.f74.name, by decide, Try.func74.trans (congrArg some (by kernel_rfl))⟩,
  f8 := ⟨Try.f61.name, by decide, Try.func61.trans (congrArg some (by kernel_rfl))⟩,
  t0 := Try.underlying0,
  a0 := Try.isAgg0,
  z0 := Try.sizeOf0,
  v0 := Try.zeroValue0,
  t3 := Try.underlying3,
  a3 := Try.isAgg3,
  z3 := Try.sizeOf3,
  v3 := Try.zeroValue3,
  t4 := Try.underlying4,
  a4 := Try.isAgg4,
  z4 := Try.sizeOf4,
  v4 := Try.zeroValue4,
  t22 := Try.underlying39,
  a22 := Try.isAgg39,
  z22 := Try.sizeOf39,
  v22 := Try.zeroValue39,
  a23 := Try.isAgg3,
  z23 := Try.sizeOf3,
  t25 := Try.underlying64,
  a25 := Try.isAgg64,
  z25 := Try.sizeOf64,
  v25 := Try.zeroValue64 }

/-- slices.ContainsFunc over a row of whole numbers, a predicate given. -/
theorem containsFunc_c (g : Nat) (eg : ∀ args w, (callFunc g args).run Try.prog w = .ok (.enter g args) w) (lb : Array Value) (p : Int → Bool) (A : Option Addr) (c : Nat) (xs : List Int) (w : World) (hp : PredAt Try.prog g lb (Value.int .i64) p w) (hr : (Kd.int .i64).C w A xs.length xs) (ha : 0 < xs.length → ∃ b, A = some ⟨b, 0, none⟩) :
    Calls Try.prog 61 #[.slice A xs.length c, .func (.func g) #[] lb] w fun e w' => e = .returned (.bool (xs.any p)) ∧ ∃ q, w' = w.drewN q := by
  by_cases hp0 : 0 < xs.length
  · obtain ⟨b, rfl⟩ := ha hp0
    have h := AnyE.slices_ContainsFunc Lcf (Value.int .i64) p g lb eg b 0 xs.length c xs w hp (Nat.le_refl _) (Kd.C_max hr) (cellsOf hr)
    rw [List.take_length] at h
    exact h
  · obtain rfl : xs = [] := List.length_eq_zero_iff.mp (by omega)
    exact (AnyE.slices_ContainsFunc_empty Lcf A c _ w).mono fun e w' ⟨he, hw⟩ => ⟨he, 0, hw⟩
def amsF (xs : List Int) : Option Bool := some (decide (okAm xs))
theorem amsF_eq (xs : List Int) : amsF xs = some (decide (okAm xs)) := rfl
def amB (x : Int) : Bool := decide (-1000000000 ≤ x ∧ x ≤ 1000000000)
theorem amPred (w : World) : PredAt Try.prog 76 #[] (Value.int .i64) (fun x => !amB x) w := fun W x _ => by
  unfold FnGives
  have h : impl_isAmount.f x = some (amB x) := isAmount_eq x
  go_enter Try.func76, Try.ntmps76
  go_wp2_with (go_at_call 50; refine (impl_isAmount.calls x _ _ h).mono ?_; rintro e w' ⟨rfl, ⟨n, rfl⟩⟩)
  go_ret
  exact ⟨rfl, n, rfl⟩
set_option maxHeartbeats 8000000 in
set_option maxRecDepth 100000 in
theorem areAms_c (A0 : Option Addr) (c0 : Nat) (xs : List Int) (v : Bool) (hv : amsF xs = some v) (w : World) (hr0 : (Kd.int .i64).C w A0 xs.length xs) (ha0 : 0 < xs.length → ∃ b, A0 = some ⟨b, 0, none⟩) :
    Calls Try.prog 68 #[.slice A0 xs.length c0] w fun e w' => e = .returned (.bool v) ∧ Below w.heap.size w w' := by
  have EG := am_ (show ∀ args w, (callFunc 76 args).run Try.prog w = .ok (.enter 76 args) w from enters_of Try.func76 (by kernel_rfl) rfl)
  rw [amsF_eq, Option.some.injEq] at hv
  have HR0 := am_ hr0
  have HA0 := am_ ha0
  by_cases hl : xs.length ≤ 20
  · have hq : decide (okAm xs) = !(xs.any (fun x => !amB x)) := okAm_any hl
    rw [hv] at hq
    obtain ⟨q, hqe⟩ : ∃ q, q = xs.any (fun x => !amB x) := ⟨_, rfl⟩
    rw [← hqe] at hq
    have HQ := am_ hqe
    have HV := am_ hq
    have cl : decide ((xs.length : Int) ≤ 20) = true := decide_eq_true (by omega)
    clear hq hqe hv hr0 ha0
    go_enter Try.func68, Try.ntmps68
    go_wp2_with (go_at_call 61; refine (containsFunc_c 76 EG.out #[] (fun x => !amB x) _ _ xs _ (amPred _) HR0.out HA0.out).mono ?_; rw [← HQ.out]; rintro e w2 ⟨rfl, ⟨n, rfl⟩⟩)
    go_ret
    exact ⟨by rw [HV.out]; rfl, (by repeat first | (with_reducible first | exact (Below.refl _ _) | apply ba_ | apply bn_ | apply bd_) | exact (Below.refl _ _))⟩
  · obtain rfl : v = false := by rw [← hv]; exact decide_eq_false (fun g => hl g.1)
    have cl : decide ((xs.length : Int) ≤ 20) = false := decide_eq_false (by omega)
    clear hv hr0 ha0
    go_enter Try.func68, Try.ntmps68
    go_wp2
    go_ret
    exact ⟨rfl, (by repeat first | (with_reducible first | exact (Below.refl _ _) | apply ba_ | apply bn_ | apply bd_) | exact (Below.refl _ _))⟩
set_option maxHeartbeats 8000000 in
set_option maxRecDepth 100000 in
theorem histI_c (A0 : Option Addr) (c0 : Nat) (xs : List Int) (i t m r : Int) (w : World) (hr0 : (Kd.int .i64).C w A0 xs.length xs) (hc0 : xs.length ≤ c0) (ha0 : 0 < xs.length → ∃ b, A0 = some ⟨b, 0, none⟩) (hn : xs.length ≤ 1048576) :
    Calls Try.prog 40 #[.slice A0 xs.length c0, .agg #[.int .i64 i, .int .i64 t, .int .i64 m, .int .i64 r]] w fun e2 w' => ∃ v, e2 = .returned (.tuple #[v, .bool (histA xs i t m r).2]) ∧ (Kd.int .i64).R 3 w' w.heap.size (fun _ => True) v (histA xs i t m r).1 ∧ Below w.heap.size w w' := by
  have HB := am_ (Below.refl w.heap.size w)
  have HR0 := am_ hr0
  have HC0 := am_ hc0
  have HA0 := am_ ha0
  clear hr0 hc0 ha0
  have g1_ := amsF_eq xs
  have g2_ := isMargin_eq i t m r
  by_cases ca : okAm xs
  · rw [decide_eq_true ca] at g1_
    have G1 := am_ g1_
    clear g1_
    by_cases ct : okT i t m r
    · rw [decide_eq_true ct] at g2_
      have G2 := am_ g2_
      clear g2_
      have hfin : histA xs i t m r = histL i t m r xs 0 [] := by unfold histA; rw [if_pos ⟨ca, ct⟩]
      rw [hfin]
      obtain ⟨FIN, hFIN⟩ : ∃ F, F = histL i t m r xs 0 [] := ⟨_, rfl⟩
      rw [← hFIN]
      have HF := am_ (show histL i t m r (xs.drop 0) 0 [] = FIN from hFIN.symm)
      have hn20 : xs.length ≤ 20 := ca.1
      clear hfin hFIN ca ct
      go_enter Try.func40, Try.ntmps40
      go_wp2_with (((with_reducible refine gate_dst (N := 3) rfl ?_); refine box_event ?hg (N := 3) ?hd (cs := #[.int .i64 i, .int .i64 t, .int .i64 m, .int .i64 r]) (t := 26) ?hr ?_; (case hd => rfl); (case hg => rfl); (case hr => first | (go_simp; done) | (go_simp; rfl))); intro g1 hg w_g1 hbox hb; have n_ := am_ (below_step (by repeat first | (with_reducible first | exact HB.out | apply ba_ | apply bn_ | apply bd_) | exact HB.out) hb); have BKg1 := am_ hbox; have GEg1 := am_ (show w.heap.size ≤ g1 from by rw [hg]; exact below_size (by repeat first | (with_reducible first | exact HB.out | apply ba_ | apply bn_ | apply bd_) | exact HB.out)); clear HB ; have HB := n_; clear n_ hb hbox hg)
      refine (areAms_c A0 c0 xs true G1.out _ (by repeat first | exact (Kd.C_below HR0.out HB.out) | with_reducible refine ca_ ?_ _ | with_reducible refine cn_ ?_ _ | with_reducible refine cd_ ?_) HA0.out).mono ?_
      rintro e2 w1 ⟨rfl, hb⟩
      replace BKg1 := am_ (blk_below (blk_below BKg1.out (by repeat first | exact Below.refl _ _ | apply ba_ | apply bn_ | apply bd_)) hb); replace HB := am_ (below_step (by repeat first | (with_reducible first | exact HB.out | apply ba_ | apply bn_ | apply bd_) | exact HB.out) hb); clear hb
      have yg1_0 : w1.cell? ⟨g1, 0, none⟩ = some (.int .i64 i) := (blk_cell BKg1.out 0).trans rfl; have fg1_0 := blk_frozen BKg1.out 0; have yg1_1 : w1.cell? ⟨g1, 1, none⟩ = some (.int .i64 t) := (blk_cell BKg1.out 1).trans rfl; have fg1_1 := blk_frozen BKg1.out 1; have yg1_2 : w1.cell? ⟨g1, 2, none⟩ = some (.int .i64 m) := (blk_cell BKg1.out 2).trans rfl; have fg1_2 := blk_frozen BKg1.out 2; have yg1_3 : w1.cell? ⟨g1, 3, none⟩ = some (.int .i64 r) := (blk_cell BKg1.out 3).trans rfl; have fg1_3 := blk_frozen BKg1.out 3
      go_wp2_with fail
      clear yg1_0 fg1_0 yg1_1 fg1_1 yg1_2 fg1_2 yg1_3 fg1_3
      refine (impl_isMargin.calls i t m r true _ G2.out).mono ?_
      rintro e2 w2 ⟨rfl, hb⟩
      replace BKg1 := am_ (blk_below (blk_below BKg1.out (by repeat first | exact Below.refl _ _ | apply ba_ | apply bn_ | apply bd_)) hb); replace HB := am_ (below_step (by repeat first | (with_reducible first | exact HB.out | apply ba_ | apply bn_ | apply bd_) | exact HB.out) hb); clear hb
      go_wp2_with (((with_reducible refine gate_dst (N := 20) rfl ?_); refine Kd.R_lit (Kd.int .i64) w.heap.size 3 (w0 := w) ?hg (N := 20) ?hd (xs := []) (inner := []) (ok := fun _ => True) (okp := fun _ => True) ?hr ?hp (fun _ hk => hk) trivial (by repeat first | (with_reducible first | exact HB.out | apply ba_ | apply bn_ | apply bd_) | exact HB.out) (below_size (by repeat first | (with_reducible first | exact HB.out | apply ba_ | apply bn_ | apply bd_) | exact HB.out)) (by simp) ?_; (case hd => rfl); (case hg => rfl); (case hr => first | (go_simp; done) | (go_simp; rfl)); (case hp => exact (Reps.none _ _)); intro v1 w1 ho hb hgr hnw); have HOUT := am_ ho; have n_ := am_ (blk_grown BKg1.out hgr (by simp)); clear BKg1 HB; have BKg1 := n_; have HB := am_ hb; clear n_ ho hb hgr hnw)
      go_loopw [6, 7, 23] (fun vo vh vk wr => ∃ (k : Nat) (h : Int) (out : List Int), vh = .int .i64 h ∧ vk = .int .i64 k ∧ Aside0 (k ≤ xs.length) ∧ Aside0 (-2000000000 ≤ h ∧ h ≤ 2000000000) ∧ Aside0 (out.length ≤ k) ∧ Aside0 (histL i t m r (xs.drop k) h out = FIN) ∧ Aside0 ((Kd.int .i64).R 3 wr w.heap.size (fun _ => True) vo out) ∧ Aside0 (wr.heap[g1]? = some (.cells #[.int .i64 i, .int .i64 t, .int .i64 m, .int .i64 r] 26 (0, 0))) ∧ Aside0 (Below w.heap.size w wr)) (fun _ _ vk _ => xs.length - (intOf vk).toNat)
      case atStart => exact ⟨0, 0, [], rfl, rfl, ⟨Nat.zero_le _⟩, ⟨by decide⟩, ⟨Nat.le_refl _⟩, HF, ⟨(by (with_reducible repeat first | apply ra_ | apply rn_ | apply rd_); exact HOUT.out)⟩, ⟨(by repeat (with_reducible first | exact BKg1.out | refine kn_ ?_ _ | refine kd_ ?_ | refine ka_ ?_ _))⟩, ⟨(by repeat first | (with_reducible first | exact HB.out | apply ba_ | apply bn_ | apply bd_) | exact HB.out)⟩⟩
      case round =>
        clear HF HOUT BKg1 HB
        obtain ⟨k, h, out, rfl, rfl, HI, HH, HOL, HF, HOUT, BKg1, HB⟩ := hrel
        by_cases hil : k < xs.length
        · have ci : decide (k < xs.length) = true := decide_eq_true hil
          obtain ⟨b0, e0⟩ := HA0.out (by omega)
          subst e0
          have hcx := cellsOfD HR0.out k hil
          rw [Nat.zero_add] at hcx
          obtain ⟨x, hx⟩ : ∃ x, x = xs.getD k 0 := ⟨_, rfl⟩
          rw [← hx] at hcx
          have HCX := am_ hcx
          have HBX := am_ (World.block_lt_of_cell? w _ hcx)
          obtain ⟨AC, hAC⟩ : ∃ F, F = callA x h i t m r := ⟨_, rfl⟩
          have hnb := callA_bd x h i t m r
          have hok := fun q : (callA x h i t m r).2 = true => callA_ok q
          rw [← hAC] at hnb hok
          obtain ⟨n, so⟩ := AC
          simp only at hnb hok
          have HAC := am_ hAC.symm
          have hst := histL_at (i := i) (t := t) (m := m) (r := r) hil h out hx.symm hAC.symm
          rw [HF.out] at hst
          have HST := am_ hst
          have hh1 := HH.out.1
          have hh2 := HH.out.2
          have hol : out.length ≤ 20 := by have := HOL.out; omega
          clear hst hAC hx
          replace hcx := (HB.out.cell HBX.out).trans hcx
          have yg1_0 : wr.cell? ⟨g1, 0, none⟩ = some (.int .i64 i) := (blk_cell BKg1.out 0).trans rfl; have fg1_0 := blk_frozen BKg1.out 0; have yg1_1 : wr.cell? ⟨g1, 1, none⟩ = some (.int .i64 t) := (blk_cell BKg1.out 1).trans rfl; have fg1_1 := blk_frozen BKg1.out 1; have yg1_2 : wr.cell? ⟨g1, 2, none⟩ = some (.int .i64 m) := (blk_cell BKg1.out 2).trans rfl; have fg1_2 := blk_frozen BKg1.out 2; have yg1_3 : wr.cell? ⟨g1, 3, none⟩ = some (.int .i64 r) := (blk_cell BKg1.out 3).trans rfl; have fg1_3 := blk_frozen BKg1.out 3
          go_wp2_with fail
          clear hcx
          clear yg1_0 fg1_0 yg1_1 fg1_1 yg1_2 fg1_2 yg1_3 fg1_3
          refine (callI_c x h i t m r _).mono ?_
          rw [HAC.out]
          rintro e2 w1_ ⟨rfl, hb⟩
          replace HOUT := am_ (Kd.R_below (by (with_reducible repeat first | apply ra_ | apply rn_ | apply rd_); exact HOUT.out) hb); replace BKg1 := am_ (blk_below (blk_below BKg1.out (by repeat first | exact Below.refl _ _ | apply ba_ | apply bn_ | apply bd_)) hb); replace HB := am_ (below_step (by repeat first | (with_reducible first | exact HB.out | apply ba_ | apply bn_ | apply bd_) | exact HB.out) hb); clear hb
          cases so with
          | false =>
            have HFZ := am_ (show FIN = ([], false) from by rw [HST.out]; rfl)
            go_wp2
            go_ret2
            exact ⟨_, by rw [HFZ.out]; rfl, by rw [HFZ.out]; exact Kd.R_nil _ _ _ _ _, (by repeat first | (with_reducible first | exact HB.out | apply ba_ | apply bn_ | apply bd_) | exact HB.out)⟩
          | true =>
            have HFS := am_ (show histL i t m r (xs.drop (k + 1)) (h + n) (out ++ [n]) = FIN from by rw [HST.out]; rfl)
            obtain ⟨h0, h1⟩ := hok rfl
            have hn1 := hnb.1
            have hn2 := hnb.2
            clear hok
            go_wp2_with (((with_reducible refine gate_builtin (b := .append) (xs := #[.tmp 36, .tmp 38]) rfl ?_); at_builtin; refine Kd.R_append (Kd.int .i64) (w0 := w) w.heap.size rfl (.tmp 36) (.tmp 38) 39 3 (.int .i64 0) 8 rfl Try.underlying39 infoI rfl (by decide) (by omega) u6 out (n : Int) [.int .i64 n] (fun _ => True) (fun _ => False) rfl rfl ?aP (fun _ hk => hk.elim) ?aF ?aO ?aB ?aS ?aL ?_; (case aP => exact rfl); (case aB => exact (by repeat first | (with_reducible first | exact HB.out | apply ba_ | apply bn_ | apply bd_) | exact HB.out)); (case aF => exact (fun _ _ => trivial)); (case aO => exact (by (with_reducible repeat first | apply ra_ | apply rn_ | apply rd_); exact HOUT.out)); (case aS => exact (below_size (by repeat first | (with_reducible first | exact HB.out | apply ba_ | apply bn_ | apply bd_) | exact HB.out))); (case aL => omega); intro v1 w1 ho hb hg hat); have n_ := am_ (blk_grown BKg1.out hg (own_ne HOUT.out BKg1.out (by decide))); clear BKg1; have BKg1 := n_; clear n_)
            go_roundw
            case rel => exact ⟨k + 1, h + n, out ++ [n], rfl, by go_num, ⟨by omega⟩, ⟨by omega⟩, ⟨by rw [List.length_append, List.length_singleton]; have := HOL.out; omega⟩, HFS, ⟨(by (with_reducible repeat first | apply ra_ | apply rn_ | apply rd_); exact ho)⟩, ⟨(by repeat (with_reducible first | exact BKg1.out | refine kn_ ?_ _ | refine kd_ ?_ | refine ka_ ?_ _))⟩, ⟨(by repeat first | (with_reducible first | exact hb | apply ba_ | apply bn_ | apply bd_) | exact hb)⟩⟩
            case measure => simp [intOf]; omega
        · have ci : decide (k < xs.length) = false := decide_eq_false hil
          have hfe := histL_end (i := i) (t := t) (m := m) (r := r) hil h out
          rw [HF.out] at hfe
          have HFE := am_ hfe
          clear hfe
          go_wp2
          go_ret2
          exact ⟨_, by rw [HFE.out]; rfl, by rw [HFE.out]; exact (by (with_reducible repeat first | apply ra_ | apply rn_ | apply rd_); exact HOUT.out), (by repeat first | (with_reducible first | exact HB.out | apply ba_ | apply bn_ | apply bd_) | exact HB.out)⟩
    · rw [decide_eq_false ct] at g2_
      have G2 := am_ g2_
      clear g2_
      have hfin : histA xs i t m r = ([], false) := by unfold histA; rw [if_neg (fun v => ct v.2)]
      rw [hfin]
      clear hfin ca ct
      go_enter Try.func40, Try.ntmps40
      go_wp2_with (((with_reducible refine gate_dst (N := 3) rfl ?_); refine box_event ?hg (N := 3) ?hd (cs := #[.int .i64 i, .int .i64 t, .int .i64 m, .int .i64 r]) (t := 26) ?hr ?_; (case hd => rfl); (case hg => rfl); (case hr => first | (go_simp; done) | (go_simp; rfl))); intro g1 hg w_g1 hbox hb; have n_ := am_ (below_step (by repeat first | (with_reducible first | exact HB.out | apply ba_ | apply bn_ | apply bd_) | exact HB.out) hb); have BKg1 := am_ hbox; have GEg1 := am_ (show w.heap.size ≤ g1 from by rw [hg]; exact below_size (by repeat first | (with_reducible first | exact HB.out | apply ba_ | apply bn_ | apply bd_) | exact HB.out)); clear HB ; have HB := n_; clear n_ hb hbox hg)
      refine (areAms_c A0 c0 xs true G1.out _ (by repeat first | exact (Kd.C_below HR0.out HB.out) | with_reducible refine ca_ ?_ _ | with_reducible refine cn_ ?_ _ | with_reducible refine cd_ ?_) HA0.out).mono ?_
      rintro e2 w1 ⟨rfl, hb⟩
      replace BKg1 := am_ (blk_below (blk_below BKg1.out (by repeat first | exact Below.refl _ _ | apply ba_ | apply bn_ | apply bd_)) hb); replace HB := am_ (below_step (by repeat first | (with_reducible first | exact HB.out | apply ba_ | apply bn_ | apply bd_) | exact HB.out) hb); clear hb
      have yg1_0 : w1.cell? ⟨g1, 0, none⟩ = some (.int .i64 i) := (blk_cell BKg1.out 0).trans rfl; have fg1_0 := blk_frozen BKg1.out 0; have yg1_1 : w1.cell? ⟨g1, 1, none⟩ = some (.int .i64 t) := (blk_cell BKg1.out 1).trans rfl; have fg1_1 := blk_frozen BKg1.out 1; have yg1_2 : w1.cell? ⟨g1, 2, none⟩ = some (.int .i64 m) := (blk_cell BKg1.out 2).trans rfl; have fg1_2 := blk_frozen BKg1.out 2; have yg1_3 : w1.cell? ⟨g1, 3, none⟩ = some (.int .i64 r) := (blk_cell BKg1.out 3).trans rfl; have fg1_3 := blk_frozen BKg1.out 3
      go_wp2_with fail
      clear yg1_0 fg1_0 yg1_1 fg1_1 yg1_2 fg1_2 yg1_3 fg1_3
      refine (impl_isMargin.calls i t m r false _ G2.out).mono ?_
      rintro e2 w2 ⟨rfl, hb⟩
      replace BKg1 := am_ (blk_below (blk_below BKg1.out (by repeat first | exact Below.refl _ _ | apply ba_ | apply bn_ | apply bd_)) hb); replace HB := am_ (below_step (by repeat first | (with_reducible first | exact HB.out | apply ba_ | apply bn_ | apply bd_) | exact HB.out) hb); clear hb
      go_wp2
      go_ret2
      exact ⟨_, rfl, Kd.R_nil _ _ _ _ _, (by repeat first | (with_reducible first | exact HB.out | apply ba_ | apply bn_ | apply bd_ | refine below_set ?_ GEg1.out) | exact HB.out)⟩
  · rw [decide_eq_false ca] at g1_
    have G1 := am_ g1_
    clear g1_ g2_
    have hfin : histA xs i t m r = ([], false) := by unfold histA; rw [if_neg (fun v => ca v.1)]
    rw [hfin]
    clear hfin ca
    go_enter Try.func40, Try.ntmps40
    go_wp2_with (((with_reducible refine gate_dst (N := 3) rfl ?_); refine box_event ?hg (N := 3) ?hd (cs := #[.int .i64 i, .int .i64 t, .int .i64 m, .int .i64 r]) (t := 26) ?hr ?_; (case hd => rfl); (case hg => rfl); (case hr => first | (go_simp; done) | (go_simp; rfl))); intro g1 hg w_g1 hbox hb; have n_ := am_ (below_step (by repeat first | (with_reducible first | exact HB.out | apply ba_ | apply bn_ | apply bd_) | exact HB.out) hb); have BKg1 := am_ hbox; have GEg1 := am_ (show w.heap.size ≤ g1 from by rw [hg]; exact below_size (by repeat first | (with_reducible first | exact HB.out | apply ba_ | apply bn_ | apply bd_) | exact HB.out)); clear HB ; have HB := n_; clear n_ hb hbox hg)
    refine (areAms_c A0 c0 xs false G1.out _ (by repeat first | exact (Kd.C_below HR0.out HB.out) | with_reducible refine ca_ ?_ _ | with_reducible refine cn_ ?_ _ | with_reducible refine cd_ ?_) HA0.out).mono ?_
    rintro e2 w1 ⟨rfl, hb⟩
    replace BKg1 := am_ (blk_below (blk_below BKg1.out (by repeat first | exact Below.refl _ _ | apply ba_ | apply bn_ | apply bd_)) hb); replace HB := am_ (below_step (by repeat first | (with_reducible first | exact HB.out | apply ba_ | apply bn_ | apply bd_) | exact HB.out) hb); clear hb
    go_wp2
    go_ret2
    exact ⟨_, rfl, Kd.R_nil _ _ _ _ _, (by repeat first | (with_reducible first | exact HB.out | apply ba_ | apply bn_ | apply bd_ | refine below_set ?_ GEg1.out) | exact HB.out)⟩
/-- The cursor of the draws, in its box at g: the code that it reads came in, its place is at most B. -/
def Cur (w0 w : World) (g : Nat) (code : List Int) (B : Int) : Prop :=
  w0.heap.size ≤ g ∧ (∀ x ∈ code, 0 ≤ x ∧ x ≤ 255) ∧ ∃ (A : Option Addr) (c : Nat) (p s : Int), w.heap[g]? = some (.cells #[.slice A code.length c, .int .i64 p, .int .u64 s] 78 (0, 0)) ∧ (Kd.int .u8).C w0 A code.length code ∧ 0 ≤ p ∧ p ≤ B
theorem Cur.blk {w0 w : World} {g : Nat} {code : List Int} {B : Int} (h : Cur w0 w g code B) : ∃ cs, w.heap[g]? = some (.cells cs 78 (0, 0)) := by
  obtain ⟨_, _, A, c, p, s, h1, _⟩ := h
  exact ⟨_, h1⟩
theorem Cur.ge {w0 w : World} {g : Nat} {code : List Int} {B : Int} (h : Cur w0 w g code B) : w0.heap.size ≤ g := h.1
theorem Cur.lt {w0 w : World} {g : Nat} {code : List Int} {B : Int} (h : Cur w0 w g code B) : g < w.heap.size := by
  obtain ⟨cs, h1⟩ := h.blk
  exact blk_lt h1
theorem Cur.step {w0 w w1 : World} {g : Nat} {code : List Int} {B B' : Int} (h : Cur w0 w g code B) (hg : w1.heap[g]? = w.heap[g]?) (hb : B ≤ B') : Cur w0 w1 g code B' := by
  obtain ⟨h0, h1, A, c, p, s, h2, h3, h4, h5⟩ := h
  exact ⟨h0, h1, A, c, p, s, by rw [hg]; exact h2, h3, h4, by omega⟩
theorem Cur.below {w0 w w1 : World} {g : Nat} {code : List Int} {B : Int} (h : Cur w0 w g code B) (hb : Below w.heap.size w w1) : Cur w0 w1 g code B := by
  obtain ⟨h0, h1, A, c, p, s, h2, h3⟩ := h
  exact ⟨h0, h1, A, c, p, s, blk_below h2 hb, h3⟩
theorem Cur.drew {w0 w : World} {g : Nat} {code : List Int} {B : Int} (h : Cur w0 w g code B) : Cur w0 w.drew g code B := h
theorem Cur.drewN {w0 w : World} {g : Nat} {code : List Int} {B : Int} (h : Cur w0 w g code B) (n : Nat) : Cur w0 (w.drewN n) g code B := h
theorem Cur.alloc {w0 w : World} {g : Nat} {code : List Int} {B : Int} (h : Cur w0 w g code B) (o : Obj) : Cur w0 (w.alloc o) g code B := h.below (below_alloc (Below.refl _ _) o)
theorem Cur.new {w0 w : World} {A : Option Addr} {c : Nat} {code : List Int} (hb : Below w0.heap.size w0 w) (hc : (Kd.int .u8).C w0 A code.length code) (hx : ∀ x ∈ code, 0 ≤ x ∧ x ≤ 255) : Cur w0 (w.alloc (.cells #[.slice A code.length c, .int .i64 0, .int .u64 0] 78 (0, 0))) w.heap.size code 0 := ⟨below_size hb, hx, A, c, 0, 0, blk_new w _, hc, by decide, by decide⟩
/-- A row of one's own keeps what it holds while the cursor goes on. -/
theorem R_draw {α : Type} {d : Kd α} {e base : Nat} {w0 w w1 : World} {v : Value} {xs : List α} {g : Nat} {code : List Int} {B : Int} {ok : Nat → Prop} (hf : ∀ (w : World) (b : Nat) (p q : Nat → Prop) x cs, d.M w b p x cs → d.M w b q x cs) (h : d.R e w base ok v xs) (hI : Cur w0 w g code B) (ht : e ≠ 78) (hk : KeepBut w w1 g none) : d.R e w1 base (fun _ => True) v xs := by
  obtain ⟨cs, hb⟩ := hI.blk
  have h1 : d.R e w base (fun k => k ≠ g) v xs := R_flat hf h (fun k hk he => own_ne h hb ht (by rw [hk, he]))
  exact Kd.R_mono (Kd.R_keep h1 hk (fun _ h => h)) (fun _ _ => trivial)
theorem R_ne {α : Type} {d : Kd α} {e base : Nat} {w0 w : World} {A : Option Addr} {n c : Nat} {xs : List α} {g : Nat} {code : List Int} {B : Int} {ok : Nat → Prop} (h : d.R e w base ok (.slice A n c) xs) (hI : Cur w0 w g code B) (ht : e ≠ 78) : ∀ ad, A = some ad → 0 < n → ad.block ≠ g := by
  intro ad he hn hg
  obtain ⟨cs, hb⟩ := hI.blk
  subst he
  obtain ⟨e1, _, _⟩ := Kd.R_reads' h
  obtain ⟨b, cap, e2, _⟩ := Kd.R_form h (by omega)
  injection e2 with e2
  injection e2 with e2
  subst e2
  obtain ⟨cells, hc⟩ := R_block h hn
  rw [show b = g from hg, hb] at hc
  injection hc with h1
  injection h1 with _ h2
  exact ht h2.symm
theorem seed_bd (x : Int) : 0 ≤ Go.bits .and .u64 (IntKind.u64.wrap x / 1099511627776) 255 ∧ Go.bits .and .u64 (IntKind.u64.wrap x / 1099511627776) 255 ≤ 255 := by
  have hw : ∀ n : Int, 0 ≤ n → n < 2 ^ 64 → IntKind.u64.wrap n = n := fun n h1 h2 => by
    have e : IntKind.u64.wrap n = n % 18446744073709551616 := by simp [IntKind.wrap, IntKind.bits, IntKind.signed]
    rw [e]; omega
  have e : IntKind.u64.wrap x = x % 18446744073709551616 := by simp [IntKind.wrap, IntKind.bits, IntKind.signed]
  rw [e]
  obtain ⟨y, hy⟩ : ∃ y, y = x % 18446744073709551616 / 1099511627776 := ⟨_, rfl⟩
  have hb : 0 ≤ y ∧ y < 2 ^ 64 := by omega
  rw [← hy]
  have h := Go.bits_mask .u64 64 (by decide) hw 8 (by decide) y hb.1 hb.2
  have h2 : Go.bits .and .u64 y 255 = y % 256 := h
  rw [h2]; omega
theorem wrap_small (v : Int) (h : 0 ≤ v ∧ v ≤ 255) : IntKind.i64.wrap v = v := IntWalk.i64_in _ (by omega)
set_option maxHeartbeats 8000000 in
set_option maxRecDepth 100000 in
theorem next_c (g : Nat) (code : List Int) (B : Int) (w0 w : World) (hI : Cur w0 w g code B) (hB : Below w0.heap.size w0 w) (hb : B ≤ 1000000000000) :
    Calls Try.prog 75 #[.pointer (some ⟨g, 0, none⟩)] w fun e w' => ∃ v, e = .returned (.int .i64 v) ∧ (0 ≤ v ∧ v ≤ 255) ∧ Cur w0 w' g code (B + 1) ∧ Below w0.heap.size w0 w' ∧ KeepBut w w' g none := by
  obtain ⟨hge, hx, A, c, p, s, hg, hc, hp0, hp1⟩ := hI
  have BKg := am_ hg
  have GEg := am_ hge
  have HX := am_ hx
  have HC := am_ hc
  have HB := am_ hB
  have HK := am_ (KeepBut.refl w g none)
  have hbd : p ≤ 1000000000000 := by omega
  have HP := am_ (show p + 1 ≤ B + 1 from by omega)
  clear hg hge hx hc hB hp1
  by_cases cl : p < code.length
  · have c1 : decide (p < (code.length : Int)) = true := decide_eq_true cl
    have c2 : decide (p + 1 ≤ (code.length : Int)) = true := decide_eq_true (by omega)
    obtain ⟨ad, e1, hcx⟩ := Kd.at_int HC.out p hp0 cl
    cases e1
    replace hcx := HB.out.cell (World.block_lt_of_cell? w0 _ hcx) |>.trans hcx
    obtain ⟨x, hxe⟩ : ∃ x, x = rd code p := ⟨_, rfl⟩
    have hxb : 0 ≤ x ∧ x ≤ 255 := by
      rw [hxe, rd, List.getD_eq_getElem?_getD, List.getElem?_eq_getElem (by omega)]
      exact HX.out _ (List.getElem_mem _)
    rw [← hxe] at hcx
    have hwx := wrap_small x hxb
    have HXB := am_ hxb
    have p1 : (0 ≤ p) = True := eq_true hp0
    have p2 : (p < (code.length : Int)) = True := eq_true cl
    clear hxe hxb
    have yg_0 : w.cell? ⟨g, 0, none⟩ = some (.slice (some ad) code.length c) := (blk_cell BKg.out 0).trans rfl; have fg_0 := blk_frozen BKg.out 0; have yg_1 : w.cell? ⟨g, 1, none⟩ = some (.int .i64 p) := (blk_cell BKg.out 1).trans rfl; have fg_1 := blk_frozen BKg.out 1; have yg_2 : w.cell? ⟨g, 2, none⟩ = some (.int .u64 s) := (blk_cell BKg.out 2).trans rfl; have fg_2 := blk_frozen BKg.out 2
    go_enter Try.func75, Try.ntmps75
    go_wp2
    repeat (go_quiet (fail); try go_wp2)
    go_ret
    exact ⟨x, rfl, HXB.out, ⟨GEg.out, HX.out, some ad, c, p + 1, _, (by (with_reducible repeat first | refine kn_ ?_ _ | refine kd_ ?_ | refine ka_ ?_ _); refine blk_put (cs := #[.slice (some ad) code.length c, .int .i64 (p + 1), .int .u64 s]) ?_ 2 _ rfl; (with_reducible repeat first | refine kn_ ?_ _ | refine kd_ ?_ | refine ka_ ?_ _); refine blk_put (cs := #[.slice (some ad) code.length c, .int .i64 p, .int .u64 s]) ?_ 1 _ rfl; (with_reducible repeat first | refine kn_ ?_ _ | refine kd_ ?_ | refine ka_ ?_ _); exact BKg.out), HC.out, by omega, HP.out⟩, (by repeat first | (with_reducible first | exact HB.out | apply ba_ | apply bn_ | apply bd_ | refine below_set ?_ GEg.out) | exact HB.out), by repeat (first | (with_reducible first | exact HK.out | apply KeepBut.set_ | apply keep_drewN | apply keep_drew | apply keep_alloc) | exact HK.out)⟩
  · have c1 : decide (p < (code.length : Int)) = false := decide_eq_false cl
    have c2 : decide (p + 1 ≤ (code.length : Int)) = false := decide_eq_false (by omega)
    have yg_0 : w.cell? ⟨g, 0, none⟩ = some (.slice A code.length c) := (blk_cell BKg.out 0).trans rfl; have fg_0 := blk_frozen BKg.out 0; have yg_1 : w.cell? ⟨g, 1, none⟩ = some (.int .i64 p) := (blk_cell BKg.out 1).trans rfl; have fg_1 := blk_frozen BKg.out 1; have yg_2 : w.cell? ⟨g, 2, none⟩ = some (.int .u64 s) := (blk_cell BKg.out 2).trans rfl; have fg_2 := blk_frozen BKg.out 2
    go_enter Try.func75, Try.ntmps75
    go_wp2
    repeat (go_quiet (fail); try go_wp2)
    go_ret
    refine ⟨_, rfl, ?_, ⟨GEg.out, HX.out, A, c, p + 1, _, (by (with_reducible repeat first | refine kn_ ?_ _ | refine kd_ ?_ | refine ka_ ?_ _); refine blk_put (cs := #[.slice A code.length c, .int .i64 (p + 1), .int .u64 s]) ?_ 2 _ rfl; (with_reducible repeat first | refine kn_ ?_ _ | refine kd_ ?_ | refine ka_ ?_ _); refine blk_put (cs := #[.slice A code.length c, .int .i64 p, .int .u64 s]) ?_ 1 _ rfl; (with_reducible repeat first | refine kn_ ?_ _ | refine kd_ ?_ | refine ka_ ?_ _); exact BKg.out), HC.out, by omega, HP.out⟩, (by repeat first | (with_reducible first | exact HB.out | apply ba_ | apply bn_ | apply bd_ | refine below_set ?_ GEg.out) | exact HB.out), by repeat (first | (with_reducible first | exact HK.out | apply KeepBut.set_ | apply keep_drewN | apply keep_drew | apply keep_alloc) | exact HK.out)⟩
    have h := seed_bd (IntKind.u64.wrap (IntKind.u64.wrap (s * 6364136223846793005)) + 902902)
    rw [wrapId (by omega)]
    exact h
/-- A row of numbers, as it lies. -/
def numsA (ls : List Int) : Array Value := (ls.map (fun x => Value.int .i64 x)).toArray
theorem C_blk {w : World} {b : Nat} {ls : List Int} (h : w.heap[b]? = some (.cells (numsA ls) 3 (0, 0))) {j : Nat} (hj : j < ls.length) : w.cell? ⟨b, j, none⟩ = some (.int .i64 (ls.getD j 0)) := by
  refine (blk_cell h j).trans ?_
  rw [numsA, List.getElem?_toArray, List.getElem?_map, List.getD_eq_getElem?_getD, List.getElem?_eq_getElem hj]
  rfl
theorem blk_ne {w : World} {b g t t' : Nat} {cs cs' : Array Value} (h : w.heap[b]? = some (.cells cs t (0, 0))) (h' : w.heap[g]? = some (.cells cs' t' (0, 0))) (ht : t ≠ t') : b ≠ g := by
  rintro rfl
  rw [h] at h'
  injection h' with h'
  injection h' with _ h'
  exact ht h'
/-- What a draw leaves: the cursor, what lay before, and all but the cursor's block. -/
def Dr (w0 w w' : World) (g : Nat) (code : List Int) (B : Int) : Prop := Cur w0 w' g code B ∧ Below w0.heap.size w0 w' ∧ KeepBut w w' g none
theorem Dr.refl {w0 w : World} {g : Nat} {code : List Int} {B B' : Int} (h : Cur w0 w g code B) (hb : Below w0.heap.size w0 w) (hB : B ≤ B') : Dr w0 w w g code B' := ⟨h.step rfl hB, hb, KeepBut.refl w g none⟩
theorem Dr.trans {w0 w w1 w2 : World} {g : Nat} {code : List Int} {B B' : Int} (h : Dr w0 w w1 g code B) (k : Dr w0 w1 w2 g code B') : Dr w0 w w2 g code B' := ⟨k.1, k.2.1, h.2.2.trans k.2.2 (.inl rfl)⟩
theorem Dr.more {w0 w w1 : World} {g : Nat} {code : List Int} {B B' : Int} (h : Dr w0 w w1 g code B) (hB : B ≤ B') : Dr w0 w w1 g code B' := ⟨h.1.step rfl hB, h.2⟩
set_option maxHeartbeats 8000000 in
set_option maxRecDepth 100000 in
theorem pick_c (n : Int) (hn : n ≤ 200) (g : Nat) (code : List Int) (B : Int) (w0 w : World) (hI : Cur w0 w g code B) (hB : Below w0.heap.size w0 w) (hb : B ≤ 900000000000) :
    Calls Try.prog 65 #[.pointer (some ⟨g, 0, none⟩), .int .i64 n] w fun e w' => ∃ v, e = .returned (.int .i64 v) ∧ (0 ≤ v ∧ (1 ≤ n → v < n)) ∧ Dr w0 w w' g code (B + 1) := by
  by_cases h1 : n ≤ 1
  · have HD := am_ (Dr.refl hI hB (show B ≤ B + 1 by omega))
    have c1 : decide (n ≤ 1) = true := decide_eq_true h1
    clear hI hB
    go_enter Try.func65, Try.ntmps65
    go_wp2
    go_ret
    exact ⟨0, rfl, ⟨by omega, by omega⟩, HD.out⟩
  · have c1 : decide (n ≤ 1) = false := decide_eq_false h1
    have c2 : decide (200 < n) = false := decide_eq_false (by omega)
    have HN := am_ (next_c g code B w0 w hI hB (by omega))
    have hnz : ¬ n = 0 := by omega
    clear hI hB
    go_enter Try.func65, Try.ntmps65
    go_wp2_with fail
    refine HN.out.mono ?_
    rintro e w1 ⟨x, rfl, hx, hc, hb1, hk⟩
    have HD := am_ (show Dr w0 w w1 g code (B + 1) from ⟨hc, hb1, hk⟩)
    have hme : x.tmod n = x % n := Int.tmod_eq_emod_of_nonneg hx.1
    have hm : 0 ≤ x % n ∧ x % n < n := ⟨Int.emod_nonneg _ hnz, Int.emod_lt_of_pos _ (by omega)⟩
    have HM := am_ hm
    have hw : wrap64 (x % n) = x % n := wrapId (by omega)
    have x0 := hx.1
    clear hc hb1 hk hm
    go_wp2
    go_ret
    exact ⟨_, rfl, ⟨HM.out.1, fun _ => HM.out.2⟩, HD.out⟩
set_option maxHeartbeats 8000000 in
set_option maxRecDepth 100000 in
theorem among_c (ls : List Int) (b n cap : Nat) (hn : 1 ≤ n ∧ n ≤ ls.length ∧ n ≤ 200) (g : Nat) (code : List Int) (B : Int) (w0 w : World) (hI : Cur w0 w g code B) (hB : Below w0.heap.size w0 w) (hb : B ≤ 900000000000) (hl : w.heap[b]? = some (.cells (numsA ls) 3 (0, 0))) :
    Calls Try.prog 64 #[.pointer (some ⟨g, 0, none⟩), .slice (some ⟨b, 0, none⟩) n cap] w fun e w' => ∃ v, e = .returned (.int .i64 v) ∧ v ∈ ls ∧ Dr w0 w w' g code (B + 1) := by
  obtain ⟨cs, hcs⟩ := hI.blk
  have hne := blk_ne hl hcs (by decide)
  have HP := am_ (pick_c (n : Int) (by omega) g code B w0 w hI hB hb)
  have HL := am_ hl
  have n1 := hn.1
  have n2 := hn.2.1
  clear hcs hI hB hl hn
  go_enter Try.func64, Try.ntmps64
  go_wp2_with fail
  refine HP.out.mono ?_
  rintro e w1 ⟨v, rfl, ⟨v0, v1⟩, hd⟩
  have HD := am_ hd
  have v2 := v1 (by omega)
  obtain ⟨k, rfl⟩ : ∃ k : Nat, v = k := ⟨v.toNat, by omega⟩
  have hkn : k < ls.length := by omega
  have hy : w1.cell? ⟨b, k, none⟩ = some (.int .i64 (ls.getD k 0)) := C_blk (hd.2.2.blk HL.out hne (by simp)) hkn
  obtain ⟨x, hx⟩ : ∃ x, x = ls.getD k 0 := ⟨_, rfl⟩
  have HX := am_ (show x ∈ ls from by rw [hx, List.getD_eq_getElem?_getD, List.getElem?_eq_getElem hkn]; exact List.getElem_mem hkn)
  rw [← hx] at hy
  have tk : (k : Int).toNat = k := Int.toNat_natCast k
  clear hd hx v1 hkn
  go_wp2
  go_ret
  exact ⟨x, rfl, HX.out, HD.out⟩
theorem Dr.cur {w0 w w1 : World} {g : Nat} {code : List Int} {B : Int} (h : Dr w0 w w1 g code B) : Cur w0 w1 g code B := h.1
theorem Dr.below {w0 w w1 : World} {g : Nat} {code : List Int} {B : Int} (h : Dr w0 w w1 g code B) : Below w0.heap.size w0 w1 := h.2.1
theorem Dr.drew {w0 w w1 : World} {g : Nat} {code : List Int} {B : Int} (h : Dr w0 w w1 g code B) : Dr w0 w w1.drew g code B := ⟨h.1, below_drew1 h.2.1, keep_drew h.2.2⟩
theorem Dr.drewN {w0 w w1 : World} {g : Nat} {code : List Int} {B : Int} (h : Dr w0 w w1 g code B) (n : Nat) : Dr w0 w (w1.drewN n) g code B := ⟨h.1, pw_below_drewN h.2.1 n, keep_drewN h.2.2 n⟩
theorem Dr.alloc {w0 w w1 : World} {g : Nat} {code : List Int} {B : Int} (h : Dr w0 w w1 g code B) (o : Obj) : Dr w0 w (w1.alloc o) g code B := ⟨h.1.alloc o, below_alloc h.2.1 o, keep_alloc h.2.2 o⟩
/-- A row's block is none that lay in w. -/
def Late (w : World) (v : Value) : Prop := ∀ k, v.ownBlock = some k → w.heap.size ≤ k
theorem Late.lit {w w1 : World} {v : Value} (hs : w.heap.size ≤ w1.heap.size) (hn : ∃ b, v.ownBlock = some b ∧ w1.heap.size ≤ b) : Late w v := by
  obtain ⟨b, e, hb⟩ := hn
  intro k hk
  rw [e] at hk
  injection hk with hk
  omega
theorem Late.app {w w1 : World} {v v1 : Value} (h : Late w v) (hs : w.heap.size ≤ w1.heap.size) (hat : v1.ownBlock = v.ownBlock ∨ ∃ b, v1.ownBlock = some b ∧ w1.heap.size ≤ b) : Late w v1 := by
  rcases hat with e | hn
  · intro k hk; exact h k (e ▸ hk)
  · exact Late.lit hs hn
theorem Dr.grown {w0 w w1 w2 : World} {g : Nat} {code : List Int} {B : Int} {v : Value} (h : Dr w0 w w1 g code B) (hg : w1.grownBy w2 v.ownBlock) (hl : Late w v) (hb : Below w0.heap.size w0 w2) (hne : some g ≠ v.ownBlock) : Dr w0 w w2 g code B :=
  ⟨h.1.step (hg.block g h.1.lt hne) (Int.le_refl _), hb, ⟨Nat.le_trans h.2.2.1 hg.size, fun i hi hgi hr => (hg.block i (Nat.lt_of_lt_of_le hi h.2.2.1) (fun e => by have := hl i e.symm; omega)).trans (h.2.2.2 i hi hgi hr)⟩⟩
theorem Dr.lit {w0 w w1 w2 : World} {g : Nat} {code : List Int} {B : Int} (h : Dr w0 w w1 g code B) (hg : w1.grownBy w2 none) (hb : Below w0.heap.size w0 w2) : Dr w0 w w2 g code B :=
  ⟨h.1.step (hg.block g h.1.lt (by simp)) (Int.le_refl _), hb, ⟨Nat.le_trans h.2.2.1 hg.size, fun i hi hgi hr => (hg.block i (Nat.lt_of_lt_of_le hi h.2.2.1) (by simp)).trans (h.2.2.2 i hi hgi hr)⟩⟩
theorem Dr.size {w0 w w1 : World} {g : Nat} {code : List Int} {B : Int} (h : Dr w0 w w1 g code B) : w.heap.size ≤ w1.heap.size := h.2.2.1
/-- A row of one's own behind a draw. -/
theorem R_dr {α : Type} {d : Kd α} {e base : Nat} {w0 w w1 : World} {v : Value} {xs : List α} {g : Nat} {code : List Int} {B B' : Int} (hf : ∀ (w : World) (b : Nat) (p q : Nat → Prop) x cs, d.M w b p x cs → d.M w b q x cs) (h : d.R e w base (fun _ => True) v xs) (hI : Cur w0 w g code B) (ht : e ≠ 78) (hd : Dr w0 w w1 g code B') : d.R e w1 base (fun _ => True) v xs := R_draw hf h hI ht hd.2.2
theorem own_cur {α : Type} {d : Kd α} {e base : Nat} {ok : Nat → Prop} {w0 w : World} {v : Value} {xs : List α} {g : Nat} {code : List Int} {B : Int} (h : d.R e w base ok v xs) (hI : Cur w0 w g code B) (ht : e ≠ 78) : some g ≠ v.ownBlock := by
  obtain ⟨cs, hb⟩ := hI.blk
  exact own_ne h hb ht
theorem Dr.set {w0 w w1 : World} {g : Nat} {code : List Int} {B : Int} (h : Dr w0 w w1 g code B) {q : Nat} (hq : w.heap.size ≤ q) (hb : w0.heap.size ≤ w.heap.size) (hg : g ≠ q) (j : Nat) (v : Value) : Dr w0 w (w1.setCell ⟨q, j, none⟩ v) g code B :=
  ⟨h.1.step (Below.heap_setCell w1 ⟨q, j, none⟩ v g hg) (Int.le_refl _), below_set h.2.1 (Nat.le_trans hb hq), keep_far h.2.2 hq v⟩
theorem Dr.bel {w0 w w1 w2 : World} {g : Nat} {code : List Int} {B : Int} (h : Dr w0 w w1 g code B) (hb : Below w1.heap.size w1 w2) : Dr w0 w w2 g code B :=
  ⟨h.1.below hb, below_step h.2.1 hb, h.2.2.trans (KeepBut.of_below hb g none) (.inl rfl)⟩
set_option maxHeartbeats 16000000 in
set_option maxRecDepth 100000 in
theorem exposure_c (g : Nat) (code : List Int) (B : Int) (w wa : World) (hI : Cur w wa g code B) (hB : Below w.heap.size w wa) (hb : B ≤ 850000000000) :
    Calls Try.prog 69 #[.pointer (some ⟨g, 0, none⟩)] wa fun e w' => ∃ x, e = .returned (.int .i64 x) ∧ Dr w wa w' g code (B + 2) := by
  have HD := am_ (Dr.refl hI hB (Int.le_refl B))
  have HB := am_ hB
  clear hI hB
  go_enter Try.func69, Try.ntmps69
  go_wp2_with fail
  refine (pick_c 40 (by decide) g code _ w _ (HD.out.alloc _).cur (ba_ HB.out _) (by omega)).mono ?_
  rintro e w2 ⟨v, rfl, ⟨v0, v1⟩, hd⟩
  have HBK := am_ (hd.2.2.blk (g' := wa.heap.size) (o := .cells (numsA [0, 100, 1234, 5000, 7777, 100000, -500, 999999999, 1000000000, 1000000001]) 3 (0, 0)) (blk_new wa _) (Nat.ne_of_gt (Cur.lt HD.out.cur)) (by simp))
  have v2 := v1 (by decide)
  clear v1
  have k_ := am_ (Dr.trans (by repeat first | exact HD.out | apply Dr.alloc | apply Dr.drewN | apply Dr.drew) hd)
  clear hd HD HB
  have HD := k_
  clear k_
  have HB := am_ HD.out.below
  generalize wa.heap.size = b at HBK ⊢
  by_cases c0 : v < 39
  · have q1 : v.tdiv 39 = 0 := by rw [Int.tdiv_eq_ediv_of_nonneg v0]; omega
    have q2 : v / 39 = 0 := by omega
    go_wp2_with fail
    refine (among_c [0, 100, 1234, 5000, 7777, 100000, -500, 999999999, 1000000000, 1000000001] b 9 10 (by decide) g code _ w _ HD.out.cur HB.out (by omega) HBK.out).mono ?_
    rintro e w3 ⟨x, rfl, _, hd⟩
    clear q1 q2 v0 v2
    have k_ := am_ (Dr.trans (by repeat first | exact HD.out | apply Dr.alloc | apply Dr.drewN | apply Dr.drew) hd)
    clear hd HD HB
    have HD := k_
    clear k_
    have HB := am_ HD.out.below
    clear HBK
    go_wp2
    go_ret
    exact ⟨x, rfl, HD.out.more (by omega)⟩
  · have q1 : v.tdiv 39 = 1 := by rw [Int.tdiv_eq_ediv_of_nonneg v0]; omega
    have q2 : v / 39 = 1 := by omega
    go_wp2_with fail
    refine (among_c [0, 100, 1234, 5000, 7777, 100000, -500, 999999999, 1000000000, 1000000001] b 10 10 (by decide) g code _ w _ HD.out.cur HB.out (by omega) HBK.out).mono ?_
    rintro e w3 ⟨x, rfl, _, hd⟩
    clear q1 q2 v0 v2
    have k_ := am_ (Dr.trans (by repeat first | exact HD.out | apply Dr.alloc | apply Dr.drewN | apply Dr.drew) hd)
    clear hd HD HB
    have HD := k_
    clear k_
    have HB := am_ HD.out.below
    clear HBK
    go_wp2
    go_ret
    exact ⟨x, rfl, HD.out.more (by omega)⟩
set_option maxHeartbeats 16000000 in
set_option maxRecDepth 100000 in
theorem margin_c (g : Nat) (code : List Int) (B : Int) (w wa : World) (hI : Cur w wa g code B) (hB : Below w.heap.size w wa) (hb : B ≤ 850000000000) :
    Calls Try.prog 70 #[.pointer (some ⟨g, 0, none⟩)] wa fun e w' => ∃ i s m r, e = .returned (.agg #[.int .i64 i, .int .i64 s, .int .i64 m, .int .i64 r]) ∧ Dr w wa w' g code (B + 6) := by
  have HD := am_ (Dr.refl hI hB (Int.le_refl B))
  have HB := am_ hB
  have HB0 := am_ hB
  have hgl := hI.lt
  clear hI hB
  go_enter Try.func70, Try.ntmps70
  go_wp2_with fail
  obtain ⟨W1, hW1⟩ : ∃ W1, W1 = wa.alloc (.cells #[.int .i64 0, .int .i64 0, .int .i64 0, .int .i64 0] 26) := ⟨_, rfl⟩
  have BK0 := am_ (show W1.heap[wa.heap.size]? = some (.cells #[.int .i64 0, .int .i64 0, .int .i64 0, .int .i64 0] 26 (0, 0)) from by rw [hW1]; exact blk_new wa _)
  have hsz : W1.heap.size = wa.heap.size + 1 := by rw [hW1]; exact Array.size_push _
  have n_ := am_ (show Dr w wa W1 g code B from by rw [hW1]; exact HD.out.alloc _)
  rw [← hW1]
  clear hW1 HD HB
  have HD := n_
  clear n_
  have HB := am_ HD.out.below
  obtain ⟨g1, hgE1⟩ : ∃ g, g = wa.heap.size := ⟨_, rfl⟩
  have GAg1 := am_ (show wa.heap.size ≤ g1 from by omega)
  have NGg1 := am_ (show g ≠ g1 from by omega)
  rw [← hgE1] at BK0 hsz ⊢
  have BKg1 := am_ BK0.out
  rw [← hsz]
  clear hgE1 hsz hgl BK0
  go_wp2_with fail
  refine (among_c [0, 0, 100, 5000] W1.heap.size 4 4 (by decide) g code _ w _ (HD.out.alloc _).cur (ba_ HB.out _) (by omega) (blk_new _ _)).mono ?_
  rintro e w2 ⟨x1, rfl, _, hd⟩
  have m_g1 := am_ (hd.2.2.blk (g' := g1) (o := .cells #[.int .i64 0, .int .i64 0, .int .i64 0, .int .i64 0] 26 (0, 0)) (by repeat first | exact BKg1.out | refine ka_ ?_ _ | refine kn_ ?_ _ | refine kd_ ?_) NGg1.out.symm (by simp))
  have k_ := am_ (Dr.trans (by repeat first | exact HD.out | apply Dr.alloc | apply Dr.drewN | apply Dr.drew) hd)
  clear hd HD HB BKg1
  have HD := k_
  clear k_
  have HB := am_ HD.out.below
  have BKg1 := m_g1
  clear m_g1
  go_wp2_with fail
  refine (among_c [0, 200, 1000, 100000] w2.heap.size 4 4 (by decide) g code _ w _ (HD.out.alloc _).cur (ba_ HB.out _) (by omega) (blk_new _ _)).mono ?_
  rintro e w3 ⟨x2, rfl, _, hd⟩
  have m_g1 := am_ (hd.2.2.blk (g' := g1) (o := .cells #[.int .i64 0, .int .i64 0, .int .i64 0, .int .i64 0] 26 (0, 0)) (by repeat first | exact BKg1.out | refine ka_ ?_ _ | refine kn_ ?_ _ | refine kd_ ?_) NGg1.out.symm (by simp))
  have k_ := am_ (Dr.trans (by repeat first | exact HD.out | apply Dr.alloc | apply Dr.drewN | apply Dr.drew) hd)
  clear hd HD HB BKg1
  have HD := k_
  clear k_
  have HB := am_ HD.out.below
  have BKg1 := m_g1
  clear m_g1
  go_wp2_with fail
  refine (among_c [0, 50, 100, 1000] w3.heap.size 4 4 (by decide) g code _ w _ (HD.out.alloc _).cur (ba_ HB.out _) (by omega) (blk_new _ _)).mono ?_
  rintro e w4 ⟨x3, rfl, _, hd⟩
  have m_g1 := am_ (hd.2.2.blk (g' := g1) (o := .cells #[.int .i64 0, .int .i64 0, .int .i64 0, .int .i64 0] 26 (0, 0)) (by repeat first | exact BKg1.out | refine ka_ ?_ _ | refine kn_ ?_ _ | refine kd_ ?_) NGg1.out.symm (by simp))
  have k_ := am_ (Dr.trans (by repeat first | exact HD.out | apply Dr.alloc | apply Dr.drewN | apply Dr.drew) hd)
  clear hd HD HB BKg1
  have HD := k_
  clear k_
  have HB := am_ HD.out.below
  have BKg1 := m_g1
  clear m_g1
  go_wp2_with fail
  refine (among_c [1, 1, 10, 50, 1000] w4.heap.size 5 5 (by decide) g code _ w _ (HD.out.alloc _).cur (ba_ HB.out _) (by omega) (blk_new _ _)).mono ?_
  rintro e w5 ⟨x4, rfl, _, hd⟩
  have m_g1 := am_ (hd.2.2.blk (g' := g1) (o := .cells #[.int .i64 0, .int .i64 0, .int .i64 0, .int .i64 0] 26 (0, 0)) (by repeat first | exact BKg1.out | refine ka_ ?_ _ | refine kn_ ?_ _ | refine kd_ ?_) NGg1.out.symm (by simp))
  have k_ := am_ (Dr.trans (by repeat first | exact HD.out | apply Dr.alloc | apply Dr.drewN | apply Dr.drew) hd)
  clear hd HD HB BKg1
  have HD := k_
  clear k_
  have HB := am_ HD.out.below
  have BKg1 := m_g1
  clear m_g1
  go_upto_region 2 with (fail)
  obtain ⟨W2, hW2⟩ : ∃ W1, W1 = w5.alloc (.cells #[.int .i64 x1, .int .i64 x2, .int .i64 x3, .int .i64 x4] 26) := ⟨_, rfl⟩
  have BK3 := am_ (show W2.heap[w5.heap.size]? = some (.cells #[.int .i64 x1, .int .i64 x2, .int .i64 x3, .int .i64 x4] 26 (0, 0)) from by rw [hW2]; exact blk_new w5 _)
  have n1 := am_ (show W2.heap[g1]? = some (.cells #[.int .i64 0, .int .i64 0, .int .i64 0, .int .i64 0] 26 (0, 0)) from by rw [hW2]; exact blk_alloc BKg1.out _)
  have n2 := am_ (show Dr w wa W2 g code _ from by rw [hW2]; exact HD.out.alloc _)
  have hne : g1 ≠ w5.heap.size := Nat.ne_of_lt (blk_lt BKg1.out)
  have hne3 : g ≠ w5.heap.size := Nat.ne_of_lt (Cur.lt HD.out.cur)
  have GA3 := am_ (show wa.heap.size ≤ w5.heap.size from HD.out.size)
  rw [← hW2]
  clear hW2 HD HB BKg1
  have HD := n2
  have HB := am_ HD.out.below
  have BKg1 := n1
  clear n1 n2
  obtain ⟨g3, hg3⟩ : ∃ g, g = w5.heap.size := ⟨_, rfl⟩
  rw [← hg3] at BK3 hne hne3 GA3 ⊢
  have BKg3 := am_ BK3.out
  have GAg3 := am_ GA3.out
  have NGg3 := am_ hne3
  have HNE := am_ hne
  clear hg3 BK3 GA3 hne3 hne
  go_wp2_with fail
  refine (pick_c 40 (by decide) g code _ w _ HD.out.cur HB.out (by omega)).mono ?_
  rintro e w6 ⟨v, rfl, _, hd⟩
  have m_g1 := am_ (hd.2.2.blk (g' := g1) (o := .cells #[.int .i64 0, .int .i64 0, .int .i64 0, .int .i64 0] 26 (0, 0)) (by repeat first | exact BKg1.out | refine ka_ ?_ _ | refine kn_ ?_ _ | refine kd_ ?_) NGg1.out.symm (by simp))
  have m_g3 := am_ (hd.2.2.blk (g' := g3) (o := .cells #[.int .i64 x1, .int .i64 x2, .int .i64 x3, .int .i64 x4] 26 (0, 0)) (by repeat first | exact BKg3.out | refine ka_ ?_ _ | refine kn_ ?_ _ | refine kd_ ?_) NGg3.out.symm (by simp))
  have k_ := am_ (Dr.trans (by repeat first | exact HD.out | apply Dr.alloc | apply Dr.drewN | apply Dr.drew) hd)
  clear hd HD HB BKg1 BKg3
  have HD := k_
  clear k_
  have HB := am_ HD.out.below
  have BKg1 := m_g1
  clear m_g1
  have BKg3 := m_g3
  clear m_g3
  by_cases e0 : v = 0
  · have q0 : (v == 0) = true := by simp [e0]
    have z0 : decide (v = 0) = true := decide_eq_true e0
    clear e0
    go_wp2_with fail
    refine (among_c [0, -1, 1000000000] w6.heap.size 3 3 (by decide) g code _ w _ (HD.out.alloc _).cur (ba_ HB.out _) (by omega) (blk_new _ _)).mono ?_
    rintro e w7 ⟨y, rfl, _, hd⟩
    have m_g1 := am_ (hd.2.2.blk (g' := g1) (o := .cells #[.int .i64 0, .int .i64 0, .int .i64 0, .int .i64 0] 26 (0, 0)) (by repeat first | exact BKg1.out | refine ka_ ?_ _ | refine kn_ ?_ _ | refine kd_ ?_) NGg1.out.symm (by simp))
    have m_g3 := am_ (hd.2.2.blk (g' := g3) (o := .cells #[.int .i64 x1, .int .i64 x2, .int .i64 x3, .int .i64 x4] 26 (0, 0)) (by repeat first | exact BKg3.out | refine ka_ ?_ _ | refine kn_ ?_ _ | refine kd_ ?_) NGg3.out.symm (by simp))
    have k_ := am_ (Dr.trans (by repeat first | exact HD.out | apply Dr.alloc | apply Dr.drewN | apply Dr.drew) hd)
    clear hd HD HB BKg1 BKg3
    have HD := k_
    clear k_
    have HB := am_ HD.out.below
    have BKg1 := m_g1
    clear m_g1
    have BKg3 := m_g3
    clear m_g3
    have yg1_0 : w7.cell? ⟨g1, 0, none⟩ = some (.int .i64 0) := (blk_cell BKg1.out 0).trans rfl; have fg1_0 := blk_frozen BKg1.out 0; have yg1_1 : w7.cell? ⟨g1, 1, none⟩ = some (.int .i64 0) := (blk_cell BKg1.out 1).trans rfl; have fg1_1 := blk_frozen BKg1.out 1; have yg1_2 : w7.cell? ⟨g1, 2, none⟩ = some (.int .i64 0) := (blk_cell BKg1.out 2).trans rfl; have fg1_2 := blk_frozen BKg1.out 2; have yg1_3 : w7.cell? ⟨g1, 3, none⟩ = some (.int .i64 0) := (blk_cell BKg1.out 3).trans rfl; have fg1_3 := blk_frozen BKg1.out 3
    have yg3_0 : w7.cell? ⟨g3, 0, none⟩ = some (.int .i64 x1) := (blk_cell BKg3.out 0).trans rfl; have fg3_0 := blk_frozen BKg3.out 0; have yg3_1 : w7.cell? ⟨g3, 1, none⟩ = some (.int .i64 x2) := (blk_cell BKg3.out 1).trans rfl; have fg3_1 := blk_frozen BKg3.out 1; have yg3_2 : w7.cell? ⟨g3, 2, none⟩ = some (.int .i64 x3) := (blk_cell BKg3.out 2).trans rfl; have fg3_2 := blk_frozen BKg3.out 2; have yg3_3 : w7.cell? ⟨g3, 3, none⟩ = some (.int .i64 x4) := (blk_cell BKg3.out 3).trans rfl; have fg3_3 := blk_frozen BKg3.out 3
    go_upto_region 9 with (fail)
    obtain ⟨W3, hW3⟩ : ∃ W, W = w7.setCell ⟨g3, 3, none⟩ (.int .i64 y) := ⟨_, rfl⟩
    have n3 := am_ (show W3.heap[g3]? = some (.cells #[.int .i64 x1, .int .i64 x2, .int .i64 x3, .int .i64 y] 26 (0, 0)) from by rw [hW3]; exact (by (with_reducible repeat first | refine kn_ ?_ _ | refine kd_ ?_ | refine ka_ ?_ _); refine blk_put (cs := #[.int .i64 x1, .int .i64 x2, .int .i64 x3, .int .i64 x4]) ?_ 3 _ rfl; (with_reducible repeat first | refine kn_ ?_ _ | refine kd_ ?_ | refine ka_ ?_ _); exact BKg3.out))
    have n1 := am_ (show W3.heap[g1]? = some (.cells #[.int .i64 0, .int .i64 0, .int .i64 0, .int .i64 0] 26 (0, 0)) from by rw [hW3]; exact kf_ BKg1.out HNE.out _)
    have n2 := am_ (show Dr w wa W3 g code _ from by rw [hW3]; exact Dr.set HD.out GAg3.out (below_size HB0.out) NGg3.out _ _)
    rw [← hW3]
    clear hW3 HD HB BKg1 BKg3
    have HD := n2
    have BKg1 := n1
    have BKg3 := n3
    clear n1 n2 n3
    have yg1_0 : W3.cell? ⟨g1, 0, none⟩ = some (.int .i64 0) := (blk_cell BKg1.out 0).trans rfl; have fg1_0 := blk_frozen BKg1.out 0; have yg1_1 : W3.cell? ⟨g1, 1, none⟩ = some (.int .i64 0) := (blk_cell BKg1.out 1).trans rfl; have fg1_1 := blk_frozen BKg1.out 1; have yg1_2 : W3.cell? ⟨g1, 2, none⟩ = some (.int .i64 0) := (blk_cell BKg1.out 2).trans rfl; have fg1_2 := blk_frozen BKg1.out 2; have yg1_3 : W3.cell? ⟨g1, 3, none⟩ = some (.int .i64 0) := (blk_cell BKg1.out 3).trans rfl; have fg1_3 := blk_frozen BKg1.out 3
    have yg3_0 : W3.cell? ⟨g3, 0, none⟩ = some (.int .i64 x1) := (blk_cell BKg3.out 0).trans rfl; have fg3_0 := blk_frozen BKg3.out 0; have yg3_1 : W3.cell? ⟨g3, 1, none⟩ = some (.int .i64 x2) := (blk_cell BKg3.out 1).trans rfl; have fg3_1 := blk_frozen BKg3.out 1; have yg3_2 : W3.cell? ⟨g3, 2, none⟩ = some (.int .i64 x3) := (blk_cell BKg3.out 2).trans rfl; have fg3_2 := blk_frozen BKg3.out 2; have yg3_3 : W3.cell? ⟨g3, 3, none⟩ = some (.int .i64 y) := (blk_cell BKg3.out 3).trans rfl; have fg3_3 := blk_frozen BKg3.out 3
    have hne := HNE.out
    have hne2 := Ne.symm hne
    go_wp2
    refine bodyPost_ret (results_single rfl (.cell g1 26 #[.int .i64 x1, .int .i64 x2, .int .i64 x3, .int .i64 y] (0, 0) _ rfl (by (with_reducible repeat first | refine kn_ ?_ _ | refine kd_ ?_ | refine ka_ ?_ _); refine blk_put (cs := #[.int .i64 x1, .int .i64 x2, .int .i64 x3, .int .i64 0]) ?_ 3 _ rfl; (with_reducible repeat first | refine kn_ ?_ _ | refine kd_ ?_ | refine ka_ ?_ _); refine blk_put (cs := #[.int .i64 x1, .int .i64 x2, .int .i64 0, .int .i64 0]) ?_ 2 _ rfl; (with_reducible repeat first | refine kn_ ?_ _ | refine kd_ ?_ | refine ka_ ?_ _); refine blk_put (cs := #[.int .i64 x1, .int .i64 0, .int .i64 0, .int .i64 0]) ?_ 1 _ rfl; (with_reducible repeat first | refine kn_ ?_ _ | refine kd_ ?_ | refine ka_ ?_ _); refine blk_put (cs := #[.int .i64 0, .int .i64 0, .int .i64 0, .int .i64 0]) ?_ 0 _ rfl; (with_reducible repeat first | refine kn_ ?_ _ | refine kd_ ?_ | refine ka_ ?_ _); exact BKg1.out) Try.underlying26 rfl (by kernel_rfl) .nil)) rfl ?_
    have hs := am_ (below_size HB0.out)
    exact ⟨_, _, _, _, rfl, Dr.more (Dr.set (Dr.set (Dr.set (Dr.set HD.out GAg1.out hs.out NGg1.out 0 _) GAg1.out hs.out NGg1.out 1 _) GAg1.out hs.out NGg1.out 2 _) GAg1.out hs.out NGg1.out 3 _) (by omega)⟩
  have q0 : (v == 0) = false := by simp [e0]
  have z0 : decide (v = 0) = false := decide_eq_false e0
  clear e0
  by_cases e1 : v = 1
  · have q1 : (v == 1) = true := by simp [e1]
    have z1 : decide (v = 1) = true := decide_eq_true e1
    clear e1
    have yg1_0 : w6.cell? ⟨g1, 0, none⟩ = some (.int .i64 0) := (blk_cell BKg1.out 0).trans rfl; have fg1_0 := blk_frozen BKg1.out 0; have yg1_1 : w6.cell? ⟨g1, 1, none⟩ = some (.int .i64 0) := (blk_cell BKg1.out 1).trans rfl; have fg1_1 := blk_frozen BKg1.out 1; have yg1_2 : w6.cell? ⟨g1, 2, none⟩ = some (.int .i64 0) := (blk_cell BKg1.out 2).trans rfl; have fg1_2 := blk_frozen BKg1.out 2; have yg1_3 : w6.cell? ⟨g1, 3, none⟩ = some (.int .i64 0) := (blk_cell BKg1.out 3).trans rfl; have fg1_3 := blk_frozen BKg1.out 3
    have yg3_0 : w6.cell? ⟨g3, 0, none⟩ = some (.int .i64 x1) := (blk_cell BKg3.out 0).trans rfl; have fg3_0 := blk_frozen BKg3.out 0; have yg3_1 : w6.cell? ⟨g3, 1, none⟩ = some (.int .i64 x2) := (blk_cell BKg3.out 1).trans rfl; have fg3_1 := blk_frozen BKg3.out 1; have yg3_2 : w6.cell? ⟨g3, 2, none⟩ = some (.int .i64 x3) := (blk_cell BKg3.out 2).trans rfl; have fg3_2 := blk_frozen BKg3.out 2; have yg3_3 : w6.cell? ⟨g3, 3, none⟩ = some (.int .i64 x4) := (blk_cell BKg3.out 3).trans rfl; have fg3_3 := blk_frozen BKg3.out 3
    go_upto_region 9 with (fail)
    obtain ⟨W3, hW3⟩ : ∃ W, W = w6.setCell ⟨g3, 1, none⟩ (.int .i64 (-1)) := ⟨_, rfl⟩
    have n3 := am_ (show W3.heap[g3]? = some (.cells #[.int .i64 x1, .int .i64 (-1), .int .i64 x3, .int .i64 x4] 26 (0, 0)) from by rw [hW3]; exact (by (with_reducible repeat first | refine kn_ ?_ _ | refine kd_ ?_ | refine ka_ ?_ _); refine blk_put (cs := #[.int .i64 x1, .int .i64 x2, .int .i64 x3, .int .i64 x4]) ?_ 1 _ rfl; (with_reducible repeat first | refine kn_ ?_ _ | refine kd_ ?_ | refine ka_ ?_ _); exact BKg3.out))
    have n1 := am_ (show W3.heap[g1]? = some (.cells #[.int .i64 0, .int .i64 0, .int .i64 0, .int .i64 0] 26 (0, 0)) from by rw [hW3]; exact kf_ BKg1.out HNE.out _)
    have n2 := am_ (show Dr w wa W3 g code _ from by rw [hW3]; exact Dr.set HD.out GAg3.out (below_size HB0.out) NGg3.out _ _)
    rw [← hW3]
    clear hW3 HD HB BKg1 BKg3
    have HD := n2
    have BKg1 := n1
    have BKg3 := n3
    clear n1 n2 n3
    have yg1_0 : W3.cell? ⟨g1, 0, none⟩ = some (.int .i64 0) := (blk_cell BKg1.out 0).trans rfl; have fg1_0 := blk_frozen BKg1.out 0; have yg1_1 : W3.cell? ⟨g1, 1, none⟩ = some (.int .i64 0) := (blk_cell BKg1.out 1).trans rfl; have fg1_1 := blk_frozen BKg1.out 1; have yg1_2 : W3.cell? ⟨g1, 2, none⟩ = some (.int .i64 0) := (blk_cell BKg1.out 2).trans rfl; have fg1_2 := blk_frozen BKg1.out 2; have yg1_3 : W3.cell? ⟨g1, 3, none⟩ = some (.int .i64 0) := (blk_cell BKg1.out 3).trans rfl; have fg1_3 := blk_frozen BKg1.out 3
    have yg3_0 : W3.cell? ⟨g3, 0, none⟩ = some (.int .i64 x1) := (blk_cell BKg3.out 0).trans rfl; have fg3_0 := blk_frozen BKg3.out 0; have yg3_1 : W3.cell? ⟨g3, 1, none⟩ = some (.int .i64 (-1)) := (blk_cell BKg3.out 1).trans rfl; have fg3_1 := blk_frozen BKg3.out 1; have yg3_2 : W3.cell? ⟨g3, 2, none⟩ = some (.int .i64 x3) := (blk_cell BKg3.out 2).trans rfl; have fg3_2 := blk_frozen BKg3.out 2; have yg3_3 : W3.cell? ⟨g3, 3, none⟩ = some (.int .i64 x4) := (blk_cell BKg3.out 3).trans rfl; have fg3_3 := blk_frozen BKg3.out 3
    have hne := HNE.out
    have hne2 := Ne.symm hne
    go_wp2
    refine bodyPost_ret (results_single rfl (.cell g1 26 #[.int .i64 x1, .int .i64 (-1), .int .i64 x3, .int .i64 x4] (0, 0) _ rfl (by (with_reducible repeat first | refine kn_ ?_ _ | refine kd_ ?_ | refine ka_ ?_ _); refine blk_put (cs := #[.int .i64 x1, .int .i64 (-1), .int .i64 x3, .int .i64 0]) ?_ 3 _ rfl; (with_reducible repeat first | refine kn_ ?_ _ | refine kd_ ?_ | refine ka_ ?_ _); refine blk_put (cs := #[.int .i64 x1, .int .i64 (-1), .int .i64 0, .int .i64 0]) ?_ 2 _ rfl; (with_reducible repeat first | refine kn_ ?_ _ | refine kd_ ?_ | refine ka_ ?_ _); refine blk_put (cs := #[.int .i64 x1, .int .i64 0, .int .i64 0, .int .i64 0]) ?_ 1 _ rfl; (with_reducible repeat first | refine kn_ ?_ _ | refine kd_ ?_ | refine ka_ ?_ _); refine blk_put (cs := #[.int .i64 0, .int .i64 0, .int .i64 0, .int .i64 0]) ?_ 0 _ rfl; (with_reducible repeat first | refine kn_ ?_ _ | refine kd_ ?_ | refine ka_ ?_ _); exact BKg1.out) Try.underlying26 rfl (by kernel_rfl) .nil)) rfl ?_
    have hs := am_ (below_size HB0.out)
    exact ⟨_, _, _, _, rfl, Dr.more (Dr.set (Dr.set (Dr.set (Dr.set HD.out GAg1.out hs.out NGg1.out 0 _) GAg1.out hs.out NGg1.out 1 _) GAg1.out hs.out NGg1.out 2 _) GAg1.out hs.out NGg1.out 3 _) (by omega)⟩
  have q1 : (v == 1) = false := by simp [e1]
  have z1 : decide (v = 1) = false := decide_eq_false e1
  clear e1
  by_cases e2 : v = 2
  · have q2 : (v == 2) = true := by simp [e2]
    have z2 : decide (v = 2) = true := decide_eq_true e2
    clear e2
    have yg1_0 : w6.cell? ⟨g1, 0, none⟩ = some (.int .i64 0) := (blk_cell BKg1.out 0).trans rfl; have fg1_0 := blk_frozen BKg1.out 0; have yg1_1 : w6.cell? ⟨g1, 1, none⟩ = some (.int .i64 0) := (blk_cell BKg1.out 1).trans rfl; have fg1_1 := blk_frozen BKg1.out 1; have yg1_2 : w6.cell? ⟨g1, 2, none⟩ = some (.int .i64 0) := (blk_cell BKg1.out 2).trans rfl; have fg1_2 := blk_frozen BKg1.out 2; have yg1_3 : w6.cell? ⟨g1, 3, none⟩ = some (.int .i64 0) := (blk_cell BKg1.out 3).trans rfl; have fg1_3 := blk_frozen BKg1.out 3
    have yg3_0 : w6.cell? ⟨g3, 0, none⟩ = some (.int .i64 x1) := (blk_cell BKg3.out 0).trans rfl; have fg3_0 := blk_frozen BKg3.out 0; have yg3_1 : w6.cell? ⟨g3, 1, none⟩ = some (.int .i64 x2) := (blk_cell BKg3.out 1).trans rfl; have fg3_1 := blk_frozen BKg3.out 1; have yg3_2 : w6.cell? ⟨g3, 2, none⟩ = some (.int .i64 x3) := (blk_cell BKg3.out 2).trans rfl; have fg3_2 := blk_frozen BKg3.out 2; have yg3_3 : w6.cell? ⟨g3, 3, none⟩ = some (.int .i64 x4) := (blk_cell BKg3.out 3).trans rfl; have fg3_3 := blk_frozen BKg3.out 3
    go_upto_region 9 with (fail)
    obtain ⟨W3, hW3⟩ : ∃ W, W = w6.setCell ⟨g3, 0, none⟩ (.int .i64 1000000000) := ⟨_, rfl⟩
    have n3 := am_ (show W3.heap[g3]? = some (.cells #[.int .i64 1000000000, .int .i64 x2, .int .i64 x3, .int .i64 x4] 26 (0, 0)) from by rw [hW3]; exact (by (with_reducible repeat first | refine kn_ ?_ _ | refine kd_ ?_ | refine ka_ ?_ _); refine blk_put (cs := #[.int .i64 x1, .int .i64 x2, .int .i64 x3, .int .i64 x4]) ?_ 0 _ rfl; (with_reducible repeat first | refine kn_ ?_ _ | refine kd_ ?_ | refine ka_ ?_ _); exact BKg3.out))
    have n1 := am_ (show W3.heap[g1]? = some (.cells #[.int .i64 0, .int .i64 0, .int .i64 0, .int .i64 0] 26 (0, 0)) from by rw [hW3]; exact kf_ BKg1.out HNE.out _)
    have n2 := am_ (show Dr w wa W3 g code _ from by rw [hW3]; exact Dr.set HD.out GAg3.out (below_size HB0.out) NGg3.out _ _)
    rw [← hW3]
    clear hW3 HD HB BKg1 BKg3
    have HD := n2
    have BKg1 := n1
    have BKg3 := n3
    clear n1 n2 n3
    have yg1_0 : W3.cell? ⟨g1, 0, none⟩ = some (.int .i64 0) := (blk_cell BKg1.out 0).trans rfl; have fg1_0 := blk_frozen BKg1.out 0; have yg1_1 : W3.cell? ⟨g1, 1, none⟩ = some (.int .i64 0) := (blk_cell BKg1.out 1).trans rfl; have fg1_1 := blk_frozen BKg1.out 1; have yg1_2 : W3.cell? ⟨g1, 2, none⟩ = some (.int .i64 0) := (blk_cell BKg1.out 2).trans rfl; have fg1_2 := blk_frozen BKg1.out 2; have yg1_3 : W3.cell? ⟨g1, 3, none⟩ = some (.int .i64 0) := (blk_cell BKg1.out 3).trans rfl; have fg1_3 := blk_frozen BKg1.out 3
    have yg3_0 : W3.cell? ⟨g3, 0, none⟩ = some (.int .i64 1000000000) := (blk_cell BKg3.out 0).trans rfl; have fg3_0 := blk_frozen BKg3.out 0; have yg3_1 : W3.cell? ⟨g3, 1, none⟩ = some (.int .i64 x2) := (blk_cell BKg3.out 1).trans rfl; have fg3_1 := blk_frozen BKg3.out 1; have yg3_2 : W3.cell? ⟨g3, 2, none⟩ = some (.int .i64 x3) := (blk_cell BKg3.out 2).trans rfl; have fg3_2 := blk_frozen BKg3.out 2; have yg3_3 : W3.cell? ⟨g3, 3, none⟩ = some (.int .i64 x4) := (blk_cell BKg3.out 3).trans rfl; have fg3_3 := blk_frozen BKg3.out 3
    have hne := HNE.out
    have hne2 := Ne.symm hne
    go_wp2
    refine bodyPost_ret (results_single rfl (.cell g1 26 #[.int .i64 1000000000, .int .i64 x2, .int .i64 x3, .int .i64 x4] (0, 0) _ rfl (by (with_reducible repeat first | refine kn_ ?_ _ | refine kd_ ?_ | refine ka_ ?_ _); refine blk_put (cs := #[.int .i64 1000000000, .int .i64 x2, .int .i64 x3, .int .i64 0]) ?_ 3 _ rfl; (with_reducible repeat first | refine kn_ ?_ _ | refine kd_ ?_ | refine ka_ ?_ _); refine blk_put (cs := #[.int .i64 1000000000, .int .i64 x2, .int .i64 0, .int .i64 0]) ?_ 2 _ rfl; (with_reducible repeat first | refine kn_ ?_ _ | refine kd_ ?_ | refine ka_ ?_ _); refine blk_put (cs := #[.int .i64 1000000000, .int .i64 0, .int .i64 0, .int .i64 0]) ?_ 1 _ rfl; (with_reducible repeat first | refine kn_ ?_ _ | refine kd_ ?_ | refine ka_ ?_ _); refine blk_put (cs := #[.int .i64 0, .int .i64 0, .int .i64 0, .int .i64 0]) ?_ 0 _ rfl; (with_reducible repeat first | refine kn_ ?_ _ | refine kd_ ?_ | refine ka_ ?_ _); exact BKg1.out) Try.underlying26 rfl (by kernel_rfl) .nil)) rfl ?_
    have hs := am_ (below_size HB0.out)
    exact ⟨_, _, _, _, rfl, Dr.more (Dr.set (Dr.set (Dr.set (Dr.set HD.out GAg1.out hs.out NGg1.out 0 _) GAg1.out hs.out NGg1.out 1 _) GAg1.out hs.out NGg1.out 2 _) GAg1.out hs.out NGg1.out 3 _) (by omega)⟩
  have q2 : (v == 2) = false := by simp [e2]
  have z2 : decide (v = 2) = false := decide_eq_false e2
  clear e2
  have yg1_0 : w6.cell? ⟨g1, 0, none⟩ = some (.int .i64 0) := (blk_cell BKg1.out 0).trans rfl; have fg1_0 := blk_frozen BKg1.out 0; have yg1_1 : w6.cell? ⟨g1, 1, none⟩ = some (.int .i64 0) := (blk_cell BKg1.out 1).trans rfl; have fg1_1 := blk_frozen BKg1.out 1; have yg1_2 : w6.cell? ⟨g1, 2, none⟩ = some (.int .i64 0) := (blk_cell BKg1.out 2).trans rfl; have fg1_2 := blk_frozen BKg1.out 2; have yg1_3 : w6.cell? ⟨g1, 3, none⟩ = some (.int .i64 0) := (blk_cell BKg1.out 3).trans rfl; have fg1_3 := blk_frozen BKg1.out 3
  have yg3_0 : w6.cell? ⟨g3, 0, none⟩ = some (.int .i64 x1) := (blk_cell BKg3.out 0).trans rfl; have fg3_0 := blk_frozen BKg3.out 0; have yg3_1 : w6.cell? ⟨g3, 1, none⟩ = some (.int .i64 x2) := (blk_cell BKg3.out 1).trans rfl; have fg3_1 := blk_frozen BKg3.out 1; have yg3_2 : w6.cell? ⟨g3, 2, none⟩ = some (.int .i64 x3) := (blk_cell BKg3.out 2).trans rfl; have fg3_2 := blk_frozen BKg3.out 2; have yg3_3 : w6.cell? ⟨g3, 3, none⟩ = some (.int .i64 x4) := (blk_cell BKg3.out 3).trans rfl; have fg3_3 := blk_frozen BKg3.out 3
  have hne := HNE.out
  have hne2 := Ne.symm hne
  go_wp2
  refine bodyPost_ret (results_single rfl (.cell g1 26 #[.int .i64 x1, .int .i64 x2, .int .i64 x3, .int .i64 x4] (0, 0) _ rfl (by (with_reducible repeat first | refine kn_ ?_ _ | refine kd_ ?_ | refine ka_ ?_ _); refine blk_put (cs := #[.int .i64 x1, .int .i64 x2, .int .i64 x3, .int .i64 0]) ?_ 3 _ rfl; (with_reducible repeat first | refine kn_ ?_ _ | refine kd_ ?_ | refine ka_ ?_ _); refine blk_put (cs := #[.int .i64 x1, .int .i64 x2, .int .i64 0, .int .i64 0]) ?_ 2 _ rfl; (with_reducible repeat first | refine kn_ ?_ _ | refine kd_ ?_ | refine ka_ ?_ _); refine blk_put (cs := #[.int .i64 x1, .int .i64 0, .int .i64 0, .int .i64 0]) ?_ 1 _ rfl; (with_reducible repeat first | refine kn_ ?_ _ | refine kd_ ?_ | refine ka_ ?_ _); refine blk_put (cs := #[.int .i64 0, .int .i64 0, .int .i64 0, .int .i64 0]) ?_ 0 _ rfl; (with_reducible repeat first | refine kn_ ?_ _ | refine kd_ ?_ | refine ka_ ?_ _); exact BKg1.out) Try.underlying26 rfl (by kernel_rfl) .nil)) rfl ?_
  have hs := am_ (below_size HB0.out)
  exact ⟨_, _, _, _, rfl, Dr.more (Dr.set (Dr.set (Dr.set (Dr.set HD.out GAg1.out hs.out NGg1.out 0 _) GAg1.out hs.out NGg1.out 1 _) GAg1.out hs.out NGg1.out 2 _) GAg1.out hs.out NGg1.out 3 _) (by omega)⟩
end Go.Proofs.Ytiaakolalhdelaa.O
