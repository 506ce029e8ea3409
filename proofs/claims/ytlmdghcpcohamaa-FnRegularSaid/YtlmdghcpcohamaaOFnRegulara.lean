/- Walks of our own, a part of those for the law FnRegular: each function's contract in plain Lean. No condition beyond the bounds that each contract names. -/
import Derived.Test.YtlmdghcpcohamaaPureFnRegular
import Derived.Deep.RegionWith
import Derived.Shelf.Sort.Plain
import Derived.Shelf.Lays
namespace Go.Proofs.Ytlmdghcpcohamaa.O
open Go.RowKit Go.Proofs.YtlmdghcpcohamaaW.PrintWords Go.Proofs.YtlmdghcpcohamaaW.PrintLast Go.Proofs.YtlmdghcpcohamaaW.PrintMore Go.Proofs.Ytlmdghcpcohamaa.PL14G Go.Proofs.Ytlmdghcpcohamaa.EvKit Go.Proofs.Ytlmdghcpcohamaa.Pure
set_option linter.unusedVariables false
set_option linter.unusedSimpArgs false
attribute [local go_sem] max2_int min2_int max_two min_two max_three min_three max_four min_four
theorem am_ {p : Prop} (h : p) : Aside0 p := ⟨h⟩
theorem db_ {w w' : World} (h : Drawn0 w w') : Below w.heap.size w w' := Drawn0.below h
/-- A number of rounds at which a printed function answers. -/
theorem roundsOf {α : Type} {g : Nat → Option α} {r : α} (h : Ev g r) : ∃ k, g k = some r := Ev.rounds h
theorem cellsOf {w : World} {b o : Nat} {xs : List Int} (h : (Kd.int .i64).C w (some ⟨b, o, none⟩) xs.length xs) : ∀ j, j < xs.length → w.cell? ⟨b, o + j, none⟩ = some (.int .i64 xs[j]!) := by
  intro j hj
  obtain ⟨ad, e, hc⟩ := Kd.at_int h (j : Int) (by omega) (by omega)
  injection e with e
  subst e
  rw [add_at] at hc
  rw [Int.toNat_natCast] at hc
  rw [hc, rd, Int.toNat_natCast, List.getD_eq_getElem?_getD, List.getElem?_eq_getElem hj, List.getElem!_eq_getElem?_getD, List.getElem?_eq_getElem hj]
  rfl
/-- Between two numbers. -/
def Iv (a b : Nat) (k : Nat) : Prop := a ≤ k ∧ k < b
theorem R_iv {α : Type} {d : Kd α} {e base : Nat} {ok : Nat → Prop} {w : World} {v : Value} {xs : List α} (h : d.R e w base ok v xs) : d.R e w base (Iv base w.heap.size) v xs := Kd.R_mono (Kd.R_bound h) (fun _ hk => ⟨hk.2.1, hk.2.2.1⟩)
/-- Where a row of one's own that is not empty begins. -/
theorem R_head {α : Type} {d : Kd α} {e base : Nat} {ok : Nat → Prop} {w : World} {A : Option Addr} {n c : Nat} {xs : List α} (h : d.R e w base ok (.slice A n c) xs) (hp : 0 < xs.length) : ∃ b, A = some ⟨b, 0, none⟩ := by
  obtain ⟨g, cap, e1, _⟩ := Kd.R_form h hp
  injection e1 with e1
  exact ⟨g, e1⟩
theorem R_ivw {α : Type} {d : Kd α} {e base a b : Nat} {ok : Nat → Prop} {w : World} {v : Value} {xs : List α} (h : d.R e w base ok v xs) (ha : a ≤ base) (hb : b ≤ base) : d.R e w b (Iv a w.heap.size) v xs := Kd.R_lower (Kd.R_mono (Kd.R_bound h) (fun _ hk => ⟨Nat.le_trans ha hk.2.1, hk.2.2.1⟩)) hb
/-- A row whose elements hold no rows lies in its own block alone. -/
theorem R_flat {α : Type} {d : Kd α} {e base : Nat} {ok ok' : Nat → Prop} {w : World} {v : Value} {xs : List α} (hf : ∀ (w : World) (b : Nat) (p q : Nat → Prop) x cs, d.M w b p x cs → d.M w b q x cs) (h : d.R e w base ok v xs) (h0 : ∀ k, v.ownBlock = some k → ok' k) : d.R e w base ok' v xs := ⟨h0, h.2.imp_ (fun _ _ hp => hf _ _ _ _ _ _ hp)⟩
theorem flat_int (w : World) (b : Nat) (p q : Nat → Prop) (x : Int) (cs : List Value) (h : (Kd.int .i64).M w b p x cs) : (Kd.int .i64).M w b q x cs := h
theorem cellsOfD {w : World} {b o m : Nat} {xs : List Int} (h : (Kd.int .i64).C w (some ⟨b, o, none⟩) m xs) : ∀ j, j < xs.length → w.cell? ⟨b, o + j, none⟩ = some (.int .i64 (xs.getD j 0)) := by
  intro j hj
  have hl := Kd.C_len h
  obtain ⟨ad, e, hc⟩ := Kd.at_int h (j : Int) (by omega) (by omega)
  injection e with e
  subst e
  rw [add_at, Int.toNat_natCast] at hc
  exact hc
theorem R_C {α : Type} {d : Kd α} {e base : Nat} {ok : Nat → Prop} {w : World} {A : Option Addr} {n c : Nat} {xs : List α} (h : d.R e w base ok (.slice A n c) xs) : d.C w A n xs := by
  obtain ⟨rfl, _, hc⟩ := Kd.R_reads' h
  exact hc
theorem R_cap {α : Type} {d : Kd α} {e base : Nat} {ok : Nat → Prop} {w : World} {A : Option Addr} {n c : Nat} {xs : List α} (h : d.R e w base ok (.slice A n c) xs) : n ≤ c := (Kd.R_reads' h).2.1
theorem R_same {α : Type} {d : Kd α} {e base : Nat} {ok : Nat → Prop} {w w1 : World} {v : Value} {xs : List α} (h : d.R e w base ok v xs) (hg : w.grownBy w1 none) : d.R e w1 base ok v xs := Kd.R_grown h hg (fun _ _ e => by cases e)
theorem R_block {α : Type} {d : Kd α} {e base g n c : Nat} {ok : Nat → Prop} {w : World} {xs : List α} (h : d.R e w base ok (.slice (some ⟨g, 0, none⟩) n c) xs) (hp : 0 < n) : ∃ cells, w.heap[g]? = some (.cells cells e (0, 0)) := by
  obtain ⟨e1, _, _⟩ := Kd.R_reads' h
  obtain ⟨g', cap, e2, _, _, cells, h3⟩ := Kd.R_form h (by omega)
  injection e2 with e2 _ _
  injection e2 with e2
  injection e2 with e2
  subst e2
  exact ⟨cells, h3⟩
theorem ba_ {w W : World} (h : Below w.heap.size w W) (o : Obj) : Below w.heap.size w (W.alloc o) := below_alloc h o
theorem bn_ {B : Nat} {w W : World} (h : Below B w W) (n : Nat) : Below B w (W.drewN n) := pw_below_drewN h n
theorem bd_ {B : Nat} {w W : World} (h : Below B w W) : Below B w W.drew := below_drew1 h
theorem ca_ {α : Type} {d : Kd α} {w : World} {xs : List α} {A : Option Addr} {n : Nat} (h : d.C w A n xs) (o : Obj) : d.C (w.alloc o) A n xs := Kd.C_alloc h o
theorem cn_ {α : Type} {d : Kd α} {w : World} {xs : List α} {A : Option Addr} {n : Nat} (h : d.C w A n xs) (m : Nat) : d.C (w.drewN m) A n xs := Kd.C_drewN h m
theorem cd_ {α : Type} {d : Kd α} {w : World} {xs : List α} {A : Option Addr} {n : Nat} (h : d.C w A n xs) : d.C w.drew A n xs := Kd.C_drew h
theorem ra_ {α : Type} {d : Kd α} {w : World} {xs : List α} {e : TypeId} {base : Nat} {ok : Nat → Prop} {v : Value} (h : d.R e w base ok v xs) (o : Obj) : d.R e (w.alloc o) base ok v xs := Kd.R_alloc h o
theorem rn_ {α : Type} {d : Kd α} {w : World} {xs : List α} {e : TypeId} {base : Nat} {ok : Nat → Prop} {v : Value} (h : d.R e w base ok v xs) (m : Nat) : d.R e (w.drewN m) base ok v xs := Kd.R_drewN h m
theorem rd_ {α : Type} {d : Kd α} {w : World} {xs : List α} {e : TypeId} {base : Nat} {ok : Nat → Prop} {v : Value} (h : d.R e w base ok v xs) : d.R e w.drew base ok v xs := Kd.R_drew h
theorem ka_ {w : World} {g : Nat} {o : Obj} (h : w.heap[g]? = some o) (o' : Obj) : (w.alloc o').heap[g]? = some o := blk_alloc h o'
theorem kd_ {w : World} {g : Nat} {o : Obj} (h : w.heap[g]? = some o) : w.drew.heap[g]? = some o := blk_drew h
theorem kn_ {w : World} {g : Nat} {o : Obj} (h : w.heap[g]? = some o) (n : Nat) : (w.drewN n).heap[g]? = some o := blk_drewN h n
theorem kf_ {w : World} {g : Nat} {t : TypeId} {cs : Array Value} (h : w.heap[g]? = some (.cells cs t (0, 0))) {p : Addr} (hp : g ≠ p.block) (u : Value) : (w.setCell p u).heap[g]? = some (.cells cs t (0, 0)) := blk_far h hp u
theorem ylI (y : Int) : 365 ≤ ylA y ∧ ylA y ≤ 366 := by have := yl_eq y; have := leap_bd y; omega
set_option maxHeartbeats 8000000 in
set_option maxRecDepth 100000 in
theorem dateI_c (day : Int) (h : 0 ≤ day ∧ day ≤ 36524) (w : World) :
    Calls Try.prog 90 #[.int .i64 day] w fun e w' => e = .returned (.agg #[.int .i64 (dateC day).1, .int .i64 (dateC day).2.1, .int .i64 (dateC day).2.2]) ∧ Below w.heap.size w w' := by
  have HB := am_ (Below.refl w.heap.size w)
  have HD := am_ (show day = dbyA 2000 + day from by unfold dbyA; omega)
  have HI := am_ h
  go_enter Try.func90, Try.ntmps90
  go_wp2_with (first
    | (((with_reducible refine gate_dst (N := 2) rfl ?_); refine box_event ?hg (N := 2) ?hd (cs := #[.int .i64 0, .int .i64 0, .int .i64 0]) (t := 98) ?hr ?_; (case hd => rfl); (case hg => rfl); (case hr => first | (go_simp; done) | (go_simp; rfl))); intro g1 hg w2 hbox hb; have n_ := am_ (below_step (by repeat first | (with_reducible first | exact HB.out | apply ba_ | apply bn_ | apply bd_) | exact HB.out) hb); have BK1 := am_ hbox; have GE1 := am_ (show w.heap.size ≤ g1 from by rw [hg]; exact below_size (by repeat first | (with_reducible first | exact HB.out | apply ba_ | apply bn_ | apply bd_) | exact HB.out)); clear HB; have HB := n_; clear n_ hb hbox hg)
    | (((with_reducible refine gate_dst (N := 3) rfl ?_); refine box_event ?hg (N := 3) ?hd (cs := #[.int .i64 0, .int .i64 0, .int .i64 0]) (t := 98) ?hr ?_; (case hd => rfl); (case hg => rfl); (case hr => first | (go_simp; done) | (go_simp; rfl))); intro g2 hg w3 hbox hb; have n_ := am_ (below_step (by repeat first | (with_reducible first | exact HB.out | apply ba_ | apply bn_ | apply bd_) | exact HB.out) hb); have m_ := am_ (blk_below (blk_below BK1.out (by repeat first | exact Below.refl _ _ | apply ba_ | apply bn_ | apply bd_)) hb); have BK2 := am_ hbox; have GE2 := am_ (show w.heap.size ≤ g2 from by rw [hg]; exact below_size (by repeat first | (with_reducible first | exact HB.out | apply ba_ | apply bn_ | apply bd_) | exact HB.out)); have NE := am_ (show g1 ≠ g2 from by rw [hg]; exact Nat.ne_of_lt (blk_lt (blk_below BK1.out (by repeat first | exact Below.refl _ _ | apply ba_ | apply bn_ | apply bd_)))); clear HB BK1; have HB := n_; have BK1 := m_; clear n_ m_ hb hbox hg; have y0 : w3.cell? ⟨g2, 0, none⟩ = some (.int .i64 0) := (blk_cell BK2.out 0).trans rfl; have y1 : w3.cell? ⟨g2, 1, none⟩ = some (.int .i64 0) := (blk_cell BK2.out 1).trans rfl; have y2 : w3.cell? ⟨g2, 2, none⟩ = some (.int .i64 0) := (blk_cell BK2.out 2).trans rfl; have f0 := blk_frozen BK2.out 0; have f1 := blk_frozen BK2.out 1; have f2 := blk_frozen BK2.out 2))
  go_loopw [0] (fun v0 wr => ∃ (x y : Int), v0 = .int .i64 x ∧ Aside0 (2000 ≤ y ∧ y ≤ 2099 ∧ 0 ≤ x ∧ x ≤ 36524 ∧ day = dbyA y + x) ∧ Aside0 (wr.heap[g1]? = some (.cells #[.int .i64 0, .int .i64 0, .int .i64 0] 98 (0, 0))) ∧ Aside0 (wr.heap[g2]? = some (.cells #[.int .i64 y, .int .i64 1, .int .i64 0] 98 (0, 0))) ∧ Aside0 (Below w.heap.size w wr)) (fun v0 _ => (intOf v0).toNat)
  case atStart => exact ⟨day, 2000, rfl, ⟨by omega, by omega, h.1, h.2, HD.out⟩, ⟨(by repeat (with_reducible first | exact BK1.out | refine kn_ ?_ _ | refine kd_ ?_ | refine ka_ ?_ _ | refine kf_ ?_ NE.out _))⟩, ⟨(by (with_reducible repeat first | refine kn_ ?_ _ | refine kd_ ?_ | refine ka_ ?_ _); refine blk_put (cs := #[.int .i64 2000, .int .i64 1, .int .i64 0]) ?_ 2 _ rfl; (with_reducible repeat first | refine kn_ ?_ _ | refine kd_ ?_ | refine ka_ ?_ _); refine blk_put (cs := #[.int .i64 2000, .int .i64 0, .int .i64 0]) ?_ 1 _ rfl; (with_reducible repeat first | refine kn_ ?_ _ | refine kd_ ?_ | refine ka_ ?_ _); refine blk_put (cs := #[.int .i64 0, .int .i64 0, .int .i64 0]) ?_ 0 _ rfl; (with_reducible repeat first | refine kn_ ?_ _ | refine kd_ ?_ | refine ka_ ?_ _); exact BK2.out)⟩, ⟨(by repeat first | (with_reducible first | exact HB.out | apply ba_ | apply bn_ | apply bd_ | refine below_set ?_ GE1.out | refine below_set ?_ GE2.out) | exact HB.out)⟩⟩
  case round =>
    clear HB BK1 BK2 y0 y1 y2 f0 f1 f2
    obtain ⟨x, y, rfl, HX, BK1, BK2, HB⟩ := hrel
    obtain ⟨hy1, hy2, hx1, hx2, hxd⟩ := HX.out
    obtain ⟨L, hL⟩ : ∃ L, L = ylA y := ⟨_, rfl⟩
    have hLb := ylI y
    rw [← hL] at hLb
    have HLE := am_ (show impl_daysOf.f y = some L from by rw [hL]; exact daysOf_eq y (by omega))
    have HS := am_ (show dbyA (y + 1) = dbyA y + L from by rw [hL]; exact dby_succ y)
    have y0 : wr.cell? ⟨g2, 0, none⟩ = some (.int .i64 y) := (blk_cell BK2.out 0).trans rfl
    by_cases c : L ≤ x
    · have cb : decide (L ≤ x) = true := decide_eq_true c
      have HXD := am_ hxd
      have hn : y ≠ 2099 := by
        intro q
        subst q
        have e : dbyA (2099 + 1) = 36525 := by decide
        have := HS.out
        have := HI.out
        omega
      have HN := am_ hn
      clear hn
      clear hL hxd
      go_wp2_with fail
      clear y0
      refine (impl_daysOf.calls y L _ HLE.out).mono ?_
      rintro e w4 ⟨rfl, hb0⟩
      have hb := db_ hb0
      replace BK1 := am_ (blk_below (blk_below BK1.out (by repeat first | exact Below.refl _ _ | apply ba_ | apply bn_ | apply bd_)) hb); replace BK2 := am_ (blk_below (blk_below BK2.out (by repeat first | exact Below.refl _ _ | apply ba_ | apply bn_ | apply bd_)) hb); replace HB := am_ (below_step (by repeat first | (with_reducible first | exact HB.out | apply ba_ | apply bn_ | apply bd_) | exact HB.out) hb); clear hb
      clear hb0
      have y0 : w4.cell? ⟨g2, 0, none⟩ = some (.int .i64 y) := (blk_cell BK2.out 0).trans rfl
      go_wp2_with fail
      clear y0
      refine (impl_daysOf.calls y L _ HLE.out).mono ?_
      rintro e w5 ⟨rfl, hb0⟩
      have hb := db_ hb0
      replace BK1 := am_ (blk_below (blk_below BK1.out (by repeat first | exact Below.refl _ _ | apply ba_ | apply bn_ | apply bd_)) hb); replace BK2 := am_ (blk_below (blk_below BK2.out (by repeat first | exact Below.refl _ _ | apply ba_ | apply bn_ | apply bd_)) hb); replace HB := am_ (below_step (by repeat first | (with_reducible first | exact HB.out | apply ba_ | apply bn_ | apply bd_) | exact HB.out) hb); clear hb
      clear hb0
      have y0 : w5.cell? ⟨g2, 0, none⟩ = some (.int .i64 y) := (blk_cell BK2.out 0).trans rfl
      have f0 := blk_frozen BK2.out 0
      go_wp2
      go_roundw
      case rel => exact ⟨x - L, y + 1, by go_num, ⟨by omega, by have := HN.out; omega, by omega, by omega, by have := HS.out; have := HXD.out; omega⟩, ⟨(by repeat (with_reducible first | exact BK1.out | refine kn_ ?_ _ | refine kd_ ?_ | refine ka_ ?_ _ | refine kf_ ?_ NE.out _))⟩, ⟨(by (with_reducible repeat first | refine kn_ ?_ _ | refine kd_ ?_ | refine ka_ ?_ _); refine blk_put (cs := #[.int .i64 y, .int .i64 1, .int .i64 0]) ?_ 0 _ rfl; (with_reducible repeat first | refine kn_ ?_ _ | refine kd_ ?_ | refine ka_ ?_ _); exact BK2.out)⟩, ⟨(by repeat first | (with_reducible first | exact HB.out | apply ba_ | apply bn_ | apply bd_ | refine below_set ?_ GE1.out | refine below_set ?_ GE2.out) | exact HB.out)⟩⟩
      case measure => simp [intOf]; omega
    · have cb : decide (L ≤ x) = false := decide_eq_false c
      have HLL := am_ (show ylA y = L from hL.symm)
      have HXL := am_ (show day = dbyA y + cumA y 1 + x ∧ x + cumA y 1 < L from by rw [cum_1]; omega)
      clear hL hxd
      go_wp2_with fail
      clear y0
      refine (impl_daysOf.calls y L _ HLE.out).mono ?_
      rintro e w4 ⟨rfl, hb0⟩
      have hb := db_ hb0
      replace BK1 := am_ (blk_below (blk_below BK1.out (by repeat first | exact Below.refl _ _ | apply ba_ | apply bn_ | apply bd_)) hb); replace BK2 := am_ (blk_below (blk_below BK2.out (by repeat first | exact Below.refl _ _ | apply ba_ | apply bn_ | apply bd_)) hb); replace HB := am_ (below_step (by repeat first | (with_reducible first | exact HB.out | apply ba_ | apply bn_ | apply bd_) | exact HB.out) hb); clear hb
      clear hb0
      go_wp2
      go_loopw [0] (fun v0 wr => ∃ (x m : Int), v0 = .int .i64 x ∧ Aside0 (1 ≤ m ∧ m ≤ 12 ∧ 0 ≤ x ∧ x ≤ 36524 ∧ day = dbyA y + cumA y m + x ∧ x + cumA y m < L) ∧ Aside0 (wr.heap[g1]? = some (.cells #[.int .i64 0, .int .i64 0, .int .i64 0] 98 (0, 0))) ∧ Aside0 (wr.heap[g2]? = some (.cells #[.int .i64 y, .int .i64 m, .int .i64 0] 98 (0, 0))) ∧ Aside0 (Below w.heap.size w wr)) (fun v0 _ => (intOf v0).toNat)
      case atStart => exact ⟨x, 1, rfl, ⟨by omega, by omega, hx1, hx2, HXL.out.1, HXL.out.2⟩, ⟨(by (with_reducible repeat first | refine kn_ ?_ _ | refine kd_ ?_ | refine ka_ ?_ _); exact BK1.out)⟩, ⟨(by (with_reducible repeat first | refine kn_ ?_ _ | refine kd_ ?_ | refine ka_ ?_ _); exact BK2.out)⟩, ⟨(by repeat first | (with_reducible first | exact HB.out | apply ba_ | apply bn_ | apply bd_) | exact HB.out)⟩⟩
      case round =>
        clear HB BK1 BK2 c cb
        obtain ⟨x, m, rfl, HX, BK1, BK2, HB⟩ := hrel
        obtain ⟨hm1, hm2, hx1, hx2, hxd, hxl⟩ := HX.out
        obtain ⟨D, hD⟩ : ∃ D, D = dimA y m := ⟨_, rfl⟩
        have hDb := dim_bd y m
        rw [← hD] at hDb
        have HLE := am_ (show impl_daysIn.f y m = some D from by rw [hD]; exact daysIn_eq y m (by omega))
        have HS := am_ (show cumA y (m + 1) = cumA y m + D from by rw [hD]; exact cum_succ y m ⟨hm1, hm2⟩)
        have HC := am_ (cum_bd y m)
        have HXD := am_ hxd
        have HXE := am_ hxl
        have y0 : wr.cell? ⟨g2, 0, none⟩ = some (.int .i64 y) := (blk_cell BK2.out 0).trans rfl
        have y1 : wr.cell? ⟨g2, 1, none⟩ = some (.int .i64 m) := (blk_cell BK2.out 1).trans rfl
        by_cases c : D ≤ x
        · have cb : decide (D ≤ x) = true := decide_eq_true c
          have hn : m ≠ 12 := by
            intro q
            subst q
            have e : cumA y (12 + 1) = ylA y := cum_13 y
            have := HS.out
            have := HLL.out
            omega
          have HN := am_ hn
          clear hn
          clear hD hxd hxl
          go_wp2_with fail
          clear y0 y1
          refine (impl_daysIn.calls y m D _ HLE.out).mono ?_
          rintro e w4 ⟨rfl, hb0⟩
          have hb := db_ hb0
          replace BK1 := am_ (blk_below (blk_below BK1.out (by repeat first | exact Below.refl _ _ | apply ba_ | apply bn_ | apply bd_)) hb); replace BK2 := am_ (blk_below (blk_below BK2.out (by repeat first | exact Below.refl _ _ | apply ba_ | apply bn_ | apply bd_)) hb); replace HB := am_ (below_step (by repeat first | (with_reducible first | exact HB.out | apply ba_ | apply bn_ | apply bd_) | exact HB.out) hb); clear hb
          clear hb0
          have y0 : w4.cell? ⟨g2, 0, none⟩ = some (.int .i64 y) := (blk_cell BK2.out 0).trans rfl
          have y1 : w4.cell? ⟨g2, 1, none⟩ = some (.int .i64 m) := (blk_cell BK2.out 1).trans rfl
          go_wp2_with fail
          clear y0 y1
          refine (impl_daysIn.calls y m D _ HLE.out).mono ?_
          rintro e w5 ⟨rfl, hb0⟩
          have hb := db_ hb0
          replace BK1 := am_ (blk_below (blk_below BK1.out (by repeat first | exact Below.refl _ _ | apply ba_ | apply bn_ | apply bd_)) hb); replace BK2 := am_ (blk_below (blk_below BK2.out (by repeat first | exact Below.refl _ _ | apply ba_ | apply bn_ | apply bd_)) hb); replace HB := am_ (below_step (by repeat first | (with_reducible first | exact HB.out | apply ba_ | apply bn_ | apply bd_) | exact HB.out) hb); clear hb
          clear hb0
          have y1 : w5.cell? ⟨g2, 1, none⟩ = some (.int .i64 m) := (blk_cell BK2.out 1).trans rfl
          have f1 := blk_frozen BK2.out 1
          go_wp2
          go_roundw
          case rel => exact ⟨x - D, m + 1, by go_num, ⟨by omega, by have := HN.out; omega, by omega, by omega, by have := HS.out; have := HXD.out; omega, by have := HS.out; have := HXE.out; omega⟩, ⟨(by repeat (with_reducible first | exact BK1.out | refine kn_ ?_ _ | refine kd_ ?_ | refine ka_ ?_ _ | refine kf_ ?_ NE.out _))⟩, ⟨(by (with_reducible repeat first | refine kn_ ?_ _ | refine kd_ ?_ | refine ka_ ?_ _); refine blk_put (cs := #[.int .i64 y, .int .i64 m, .int .i64 0]) ?_ 1 _ rfl; (with_reducible repeat first | refine kn_ ?_ _ | refine kd_ ?_ | refine ka_ ?_ _); exact BK2.out)⟩, ⟨(by repeat first | (with_reducible first | exact HB.out | apply ba_ | apply bn_ | apply bd_ | refine below_set ?_ GE1.out | refine below_set ?_ GE2.out) | exact HB.out)⟩⟩
          case measure => simp [intOf]; omega
        · have cb : decide (D ≤ x) = false := decide_eq_false c
          have HDT := am_ (show dateC day = (y, m, x + 1) from dateC_eq ⟨⟨hy1, hy2⟩, ⟨hm1, hm2⟩, by omega, by omega⟩)
          clear hD hxd hxl
          go_wp2_with fail
          clear y0 y1
          refine (impl_daysIn.calls y m D _ HLE.out).mono ?_
          rintro e w4 ⟨rfl, hb0⟩
          have hb := db_ hb0
          replace BK1 := am_ (blk_below (blk_below BK1.out (by repeat first | exact Below.refl _ _ | apply ba_ | apply bn_ | apply bd_)) hb); replace BK2 := am_ (blk_below (blk_below BK2.out (by repeat first | exact Below.refl _ _ | apply ba_ | apply bn_ | apply bd_)) hb); replace HB := am_ (below_step (by repeat first | (with_reducible first | exact HB.out | apply ba_ | apply bn_ | apply bd_) | exact HB.out) hb); clear hb
          clear hb0
          have y0 : w4.cell? ⟨g2, 0, none⟩ = some (.int .i64 y) := (blk_cell BK2.out 0).trans rfl
          have y1 : w4.cell? ⟨g2, 1, none⟩ = some (.int .i64 m) := (blk_cell BK2.out 1).trans rfl
          have y2 : w4.cell? ⟨g2, 2, none⟩ = some (.int .i64 0) := (blk_cell BK2.out 2).trans rfl
          have f0 := blk_frozen BK2.out 0
          have f1 := blk_frozen BK2.out 1
          have f2 := blk_frozen BK2.out 2
          have z0 : w4.cell? ⟨g1, 0, none⟩ = some (.int .i64 0) := (blk_cell BK1.out 0).trans rfl
          have z1 : w4.cell? ⟨g1, 1, none⟩ = some (.int .i64 0) := (blk_cell BK1.out 1).trans rfl
          have z2 : w4.cell? ⟨g1, 2, none⟩ = some (.int .i64 0) := (blk_cell BK1.out 2).trans rfl
          have e0 := blk_frozen BK1.out 0
          have e1 := blk_frozen BK1.out 1
          have e2 := blk_frozen BK1.out 2
          have hn1 := NE.out
          have hn2 := Ne.symm NE.out
          go_wp2
          refine bodyPost_ret (results_cell_row rfl _ _ g1 98 #[.int .i64 y, .int .i64 m, .int .i64 (x + 1)] (0, 0) _ rfl (by (with_reducible repeat first | refine kn_ ?_ _ | refine kd_ ?_ | refine ka_ ?_ _); refine blk_put (cs := #[.int .i64 y, .int .i64 m, .int .i64 0]) ?_ 2 _ rfl; (with_reducible repeat first | refine kn_ ?_ _ | refine kd_ ?_ | refine ka_ ?_ _); refine blk_put (cs := #[.int .i64 y, .int .i64 0, .int .i64 0]) ?_ 1 _ rfl; (with_reducible repeat first | refine kn_ ?_ _ | refine kd_ ?_ | refine ka_ ?_ _); refine blk_put (cs := #[.int .i64 0, .int .i64 0, .int .i64 0]) ?_ 0 _ rfl; (with_reducible repeat first | refine kn_ ?_ _ | refine kd_ ?_ | refine ka_ ?_ _ | refine kf_ ?_ NE.out _); exact BK1.out) Try.underlying98 rfl (by kernel_rfl)) rfl ?_
          exact ⟨by rw [HDT.out], (by repeat first | (with_reducible first | exact HB.out | apply ba_ | apply bn_ | apply bd_ | refine below_set ?_ GE1.out | refine below_set ?_ GE2.out) | exact HB.out)⟩
theorem dayOf_ev {y m d : Int} (hy : 2000 ≤ y ∧ y ≤ 2099) (hm : 1 ≤ m ∧ m ≤ 12) (hd : 1 ≤ d ∧ d ≤ 31) : Ev (fun k => impl_dayOf.f k y m d) (dbyA y + cumA y m + d - 1) := implDay_ev y m d (by omega) (by omega) (by omega)
set_option maxHeartbeats 16000000 in
set_option maxRecDepth 100000 in
theorem addMonI_c (day n : Int) (hday : 0 ≤ day ∧ day ≤ 36524) (hnn : -1000000 ≤ n ∧ n ≤ 1000000) (w : World) :
    Calls Try.prog 66 #[.int .i64 day, .int .i64 n] w fun e w' => e = .returned (.tuple #[.int .i64 (addD (dateC day).1 (dateC day).2.1 (dateC day).2.2 n).1, .bool (addD (dateC day).1 (dateC day).2.1 (dateC day).2.2 n).2]) ∧ Below w.heap.size w w' := by
  have HB := am_ (Below.refl w.heap.size w)
  have hi := isDay_eq day
  rw [decide_eq_true hday] at hi
  have HI := am_ hi
  have hw := within_eq n (-1200) 1200
  have HDT := am_ (dateC_is day hday)
  have HDC := am_ (dateI_c day hday)
  obtain ⟨D, hD⟩ : ∃ D, D = dateC day := ⟨_, rfl⟩
  rw [← hD] at HDT HDC ⊢
  clear hD hi
  obtain ⟨y, m, d⟩ := D
  have hy : 2000 ≤ y ∧ y ≤ 2099 := HDT.out.1
  have hm : 1 ≤ m ∧ m ≤ 12 := HDT.out.2.1
  have hd : 1 ≤ d ∧ d ≤ dimA y m := HDT.out.2.2.1
  have hdm := dim_bd y m
  clear HDT
  by_cases hn : -1200 ≤ n ∧ n ≤ 1200
  rotate_left
  · rw [decide_eq_false hn] at hw
    have HW := am_ hw
    have HNO := am_ (show addD y m d n = (0, false) from by rw [addD_eq, if_neg (by omega)])
    clear hw hn
    rw [HNO.out]
    go_enter Try.func66, Try.ntmps66
    go_wp2_with fail
    refine (impl_isDay.calls day true _ HI.out).mono ?_
    rintro e w1 ⟨rfl, ⟨q1, rfl⟩⟩
    go_wp2_with fail
    refine (impl_within.calls n (-1200) 1200 false _ HW.out).mono ?_
    rintro e w2 ⟨rfl, ⟨q2, rfl⟩⟩
    go_wp2
    go_ret2
    exact ⟨rfl, (by repeat first | (with_reducible first | exact HB.out | apply ba_ | apply bn_ | apply bd_) | exact HB.out)⟩
  rw [decide_eq_true hn] at hw
  have HW := am_ hw
  obtain ⟨N, hN⟩ : ∃ N, N = 12 * (y - 2000) + m - 1 + n := ⟨_, rfl⟩
  have hw2 := within_eq N 0 1199
  have hNb : -1200 ≤ N ∧ N ≤ 2400 := by omega
  have HN := am_ hN
  have s1 : 0 ≤ y - 2000 := by omega
  have s2 : y - 2000 ≤ 99 := by omega
  have n0 := hn.1
  have n1 := hn.2
  have m0 := hm.1
  have m1 := hm.2
  have d0 := hd.1
  have d1 : d ≤ 31 := by omega
  clear hw hn hN hdm
  go_enter Try.func66, Try.ntmps66
  go_wp2_with fail
  refine (impl_isDay.calls day true _ HI.out).mono ?_
  rintro e w1 ⟨rfl, ⟨q1, rfl⟩⟩
  go_wp2_with fail
  refine (impl_within.calls n (-1200) 1200 true _ HW.out).mono ?_
  rintro e w2 ⟨rfl, ⟨q2, rfl⟩⟩
  go_wp2_with fail
  refine (HDC.out _).mono ?_
  rintro e w3 ⟨rfl, hb⟩
  replace HB := am_ (below_step (by repeat first | (with_reducible first | exact HB.out | apply ba_ | apply bn_ | apply bd_) | exact HB.out) hb); clear hb
  go_wp2_with fail
  rw [← HN.out]
  obtain ⟨W1, hW1⟩ : ∃ W1, W1 = w3.alloc (.cells #[.int .i64 y, .int .i64 m, .int .i64 d] 98) := ⟨_, rfl⟩
  have BK := am_ (show W1.heap[w3.heap.size]? = some (.cells #[.int .i64 y, .int .i64 m, .int .i64 d] 98 (0, 0)) from by rw [hW1]; exact blk_new w3 _)
  have HB1 := am_ (show Below w.heap.size w W1 from by rw [hW1]; exact below_alloc HB.out _)
  have GE := am_ (show w.heap.size ≤ w3.heap.size from below_size (by repeat first | (with_reducible first | exact HB.out | apply ba_ | apply bn_ | apply bd_) | exact HB.out))
  rw [← hW1]
  clear hW1 HB
  generalize w3.heap.size = G at BK GE ⊢
  have HB := HB1
  clear HB1
  by_cases hc : 0 ≤ N ∧ N ≤ 1199
  rotate_left
  · rw [decide_eq_false hc] at hw2
    have HW2 := am_ hw2
    have HNO := am_ (show addD y m d n = (0, false) from by rw [addD_eq, if_neg (by rw [← HN.out]; exact hc)])
    clear hw2 hc
    refine (impl_within.calls N 0 1199 false _ HW2.out).mono ?_
    rintro e w4 ⟨rfl, ⟨q4, rfl⟩⟩
    go_wp2
    go_ret2
    exact ⟨by rw [HNO.out]; rfl, (by repeat first | (with_reducible first | exact HB.out | apply ba_ | apply bn_ | apply bd_) | exact HB.out)⟩
  rw [decide_eq_true hc] at hw2
  have HW2 := am_ hw2
  have c0 := hc.1
  have c1 := hc.2
  have HTD := am_ (Int.tdiv_eq_ediv_of_nonneg (b := 12) c0)
  have HTM := am_ (Int.tmod_eq_emod_of_nonneg (b := 12) c0)
  have t0 : 0 ≤ Int.tdiv N 12 := by rw [HTD.out]; omega
  have t1 : Int.tdiv N 12 ≤ 99 := by rw [HTD.out]; omega
  have t2 : 0 ≤ Int.tmod N 12 := by rw [HTM.out]; omega
  have t3 : Int.tmod N 12 ≤ 11 := by rw [HTM.out]; omega
  have HYES := am_ (show addD y m d n = (dbyA (2000 + N / 12) + cumA (2000 + N / 12) (1 + N % 12) + minI d (dimA (2000 + N / 12) (1 + N % 12)) - 1, true) from by rw [addD_eq, ← HN.out, if_pos hc]; rfl)
  clear hw2 hc
  refine (impl_within.calls N 0 1199 true _ HW2.out).mono ?_
  rintro e w4 ⟨rfl, ⟨q4, rfl⟩⟩
  have yk0 := (blk_cell BK.out 0).trans rfl
  have yk1 := (blk_cell BK.out 1).trans rfl
  have yk2 := (blk_cell BK.out 2).trans rfl
  have fk0 := blk_frozen BK.out 0
  have fk1 := blk_frozen BK.out 1
  have fk2 := blk_frozen BK.out 2
  go_upto_region 8 with (fail)
  clear yk0 yk1 yk2 fk0 fk1 fk2
  have BK2 := am_ (blk_put (blk_put (show (W1.drewN q4).heap[G]? = some (.cells #[.int .i64 y, .int .i64 m, .int .i64 d] 98 (0, 0)) from BK.out) 0 (.int .i64 (2000 + Int.tdiv N 12)) rfl) 1 (.int .i64 (1 + N % 12)) rfl)
  have HB2 := am_ (below_set (j := 1) (v := .int .i64 (1 + N % 12)) (below_set (j := 0) (v := .int .i64 (2000 + Int.tdiv N 12)) (pw_below_drewN HB.out q4) GE.out) GE.out)
  clear BK HB
  generalize (((W1.drewN q4).setCell ⟨G, 0, none⟩ (.int .i64 (2000 + Int.tdiv N 12))).setCell ⟨G, 1, none⟩ (.int .i64 (1 + N % 12))) = W2 at BK2 HB2 ⊢
  have HY1 := HYES.out
  rw [← HTD.out] at HY1
  have hYb : 2000 ≤ 2000 + Int.tdiv N 12 ∧ 2000 + Int.tdiv N 12 ≤ 2099 := by omega
  have hMb : 1 ≤ 1 + N % 12 ∧ 1 + N % 12 ≤ 12 := by omega
  generalize 2000 + Int.tdiv N 12 = Y at BK2 HB2 HY1 hYb ⊢
  generalize 1 + N % 12 = M at BK2 HB2 HY1 hMb ⊢
  have HYES2 := am_ HY1
  have HDI := am_ (daysIn_eq Y M (by omega))
  obtain ⟨DM, hDM⟩ : ∃ DM, DM = dimA Y M := ⟨_, rfl⟩
  have hdmb := dim_bd Y M
  rw [← hDM] at hdmb
  have hmb := minI_bd d DM
  obtain ⟨MD, hMD⟩ : ∃ MD, MD = minI d DM := ⟨_, rfl⟩
  rw [← hMD] at hmb
  have HMD := am_ (show (if DM < d then DM else d) = MD from by rw [hMD]; rfl)
  have HMD2 := am_ (show min d DM = MD from by rw [hMD]; unfold minI; split <;> omega)
  obtain ⟨kd, hkd⟩ := roundsOf (dayOf_ev (y := Y) (m := M) (d := MD) hYb hMb (by omega))
  have HKD := am_ hkd
  have HFIN := am_ (show addD y m d n = (dbyA Y + cumA Y M + MD - 1, true) from by rw [HYES2.out, hMD, hDM])
  have HDI2 := am_ (show impl_daysIn.f Y M = some DM from by rw [hDM]; exact HDI.out)
  clear HYES HTD HTM t0 t1 t2 t3 HY1 hkd hMD hDM hmb
  have yk0 := (blk_cell BK2.out 0).trans rfl
  have yk1 := (blk_cell BK2.out 1).trans rfl
  have yk2 := (blk_cell BK2.out 2).trans rfl
  have fk2 := blk_frozen BK2.out 2
  go_cut [46] from 39 to 47 (fun vc wx => Aside0 (wx.heap[G]? = some (.cells #[.int .i64 Y, .int .i64 M, .int .i64 MD] 98 (0, 0))) ∧ Aside0 (Below w.heap.size w wx))
  case first =>
    go_region_with (go_at_call 91; refine (impl_daysIn.calls Y M DM _ HDI2.out).mono ?_; rintro e w9_ ⟨rfl, ⟨q9, rfl⟩⟩)
    all_goals (rw [HMD.out]; go_wp2; go_meet; exact ⟨⟨blk_put (show (W2.drewN _).heap[G]? = some (.cells #[.int .i64 Y, .int .i64 M, .int .i64 d] 98 (0, 0)) from BK2.out) 2 (.int .i64 MD) rfl⟩, ⟨below_set (j := 2) (v := .int .i64 MD) (pw_below_drewN HB2.out _) GE.out⟩⟩)
  case rest =>
    clear yk0 yk1 yk2 fk2 BK2 HB2
    obtain ⟨BK3, HB3⟩ := hcut
    have yk0 := (blk_cell BK3.out 0).trans rfl
    have yk1 := (blk_cell BK3.out 1).trans rfl
    have yk2 := (blk_cell BK3.out 2).trans rfl
    go_wp2_with fail
    refine (impl_dayOf.calls kd Y M MD _ _ HKD.out).mono ?_
    rintro e w10 ⟨rfl, hb⟩
    have HB := am_ (below_step HB3.out hb)
    clear hb
    go_wp2
    go_ret2
    exact ⟨by rw [HFIN.out]; rfl, (by repeat first | (with_reducible first | exact HB.out | apply ba_ | apply bn_ | apply bd_) | exact HB.out)⟩
theorem R_ownlt {α : Type} {d : Kd α} {e base : Nat} {ok : Nat → Prop} {w : World} {v : Value} {xs : List α} (h : d.R e w base ok v xs) {k : Nat} (hk : v.ownBlock = some k) : base ≤ k ∧ k < w.heap.size := by
  obtain ⟨inner, ho⟩ := Kd.R_own h
  exact ⟨own_base ho k hk, own_lt ho k hk⟩
/-- A store into another block than the row's own. -/
theorem R_offset {base : Nat} {w : World} {v : Value} {xs : List Int} (h : (Kd.int .i64).R 3 w base (fun _ => True) v xs) {g : Nat} (hd : ∀ k, v.ownBlock = some k → k ≠ g) (j : Nat) (u : Value) : (Kd.int .i64).R 3 (w.setCell ⟨g, j, none⟩ u) base (fun _ => True) v xs :=
  Kd.R_mono (Kd.R_far (p := ⟨g, j, none⟩) (R_flat flat_int h hd) (fun k hk => hk) u) (fun _ _ => trivial)
/-- Another row was appended to. -/
theorem R_offrow {base : Nat} {w w1 : World} {u v : Value} {xs : List Int} (h : (Kd.int .i64).R 3 w base (fun _ => True) u xs) (hg : w.grownBy w1 v.ownBlock) (hd : ∀ k, u.ownBlock = some k → v.ownBlock ≠ some k) : (Kd.int .i64).R 3 w1 base (fun _ => True) u xs :=
  Kd.R_mono (Kd.R_grown (R_flat flat_int h (fun k hk => hd k hk)) hg (fun k hk e => hk e.symm)) (fun _ _ => trivial)
theorem off_app {w : World} {v v1 : Value} {g : Nat} (hd : ∀ k, v.ownBlock = some k → k ≠ g) (hg : g < w.heap.size) (hat : v1.ownBlock = v.ownBlock ∨ ∃ b, v1.ownBlock = some b ∧ w.heap.size ≤ b) : ∀ k, v1.ownBlock = some k → k ≠ g := by
  intro k hk
  rcases hat with e | ⟨b, e, hb⟩
  · exact hd k (e ▸ hk)
  · rw [e] at hk
    injection hk with hk
    omega
def IvP (a b : Nat) (o : Option Nat) (k : Nat) : Prop := Iv a b k ∧ o = some k
theorem R_ivp {base a b : Nat} {ok : Nat → Prop} {w : World} {v : Value} {xs : List Int} (h : (Kd.int .i64).R 3 w base ok v xs) (ha : a ≤ base) (hb : b ≤ base) : (Kd.int .i64).R 3 w b (IvP a w.heap.size v.ownBlock) v xs :=
  R_flat flat_int (R_ivw h ha hb) (fun k hk => ⟨(R_ivw h ha hb).1 k hk, hk⟩)
end Go.Proofs.Ytlmdghcpcohamaa.O
