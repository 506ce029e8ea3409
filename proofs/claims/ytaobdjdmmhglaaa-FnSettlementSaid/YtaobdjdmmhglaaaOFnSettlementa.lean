/- Walks of our own, a part of those for the law FnSettlement: each function's contract in plain Lean. No condition beyond the bounds that each contract names. -/
import Derived.Test.YtaobdjdmmhglaaaPureFnSettlement
import Derived.Shelf.Slices.Clone
import Derived.Shelf.SlicesE.IndexFunc
import Derived.Shelf.Slices.Turned
import Derived.Shelf.Lays2
import Derived.Shelf.SlLaysH
import Derived.Shelf.Lays
namespace Go.Proofs.Ytaobdjdmmhglaaa.O
open Go.RowKit Go.Proofs.YtaobdjdmmhglaaaW.PrintWords Go.Proofs.YtaobdjdmmhglaaaW.PrintLast Go.Proofs.YtaobdjdmmhglaaaW.PrintMore Go.Proofs.Ytaobdjdmmhglaaa.PL16T Go.Proofs.Ytaobdjdmmhglaaa.EvKit Go.Proofs.Ytaobdjdmmhglaaa.Pure
set_option linter.unusedVariables false
set_option linter.unusedSimpArgs false
attribute [local go_sem] max2_int min2_int max_two min_two max_three min_three max_four min_four
theorem am_ {p : Prop} (h : p) : Aside0 p := ⟨h⟩
theorem db_ {w w' : World} (h : Drawn0 w w') : Below w.heap.size w w' := Drawn0.below h
/-- A number of rounds at which a printed function answers. -/
theorem roundsOf {α : Type} {g : Nat → Option α} {r : α} (h : Ev g r) : ∃ k, g k = some r := Ev.rounds h
theorem cellsOf {w : World} {b o : Nat} {xs : List Int} (h : (Kd.int .i64).C w (some ⟨b, o, none⟩) xs.length xs) : ∀ j, j < xs.length → w.cell? ⟨b, o + j, none⟩ = some (.int .i64 xs[j]!) := by
  intro j hj
  obtain ⟨ad, e, hc⟩ := Kd.at_int h (j : Int) (by omega) (by omega)
  injection e with e
  subst e
  rw [add_at] at hc
  rw [Int.toNat_natCast] at hc
  rw [hc, rd, Int.toNat_natCast, List.getD_eq_getElem?_getD, List.getElem?_eq_getElem hj, List.getElem!_eq_getElem?_getD, List.getElem?_eq_getElem hj]
  rfl
/-- Between two numbers. -/
def Iv (a b : Nat) (k : Nat) : Prop := a ≤ k ∧ k < b
theorem R_iv {α : Type} {d : Kd α} {e base : Nat} {ok : Nat → Prop} {w : World} {v : Value} {xs : List α} (h : d.R e w base ok v xs) : d.R e w base (Iv base w.heap.size) v xs := Kd.R_mono (Kd.R_bound h) (fun _ hk => ⟨hk.2.1, hk.2.2.1⟩)
/-- Where a row of one's own that is not empty begins. -/
theorem R_head {α : Type} {d : Kd α} {e base : Nat} {ok : Nat → Prop} {w : World} {A : Option Addr} {n c : Nat} {xs : List α} (h : d.R e w base ok (.slice A n c) xs) (hp : 0 < xs.length) : ∃ b, A = some ⟨b, 0, none⟩ := by
  obtain ⟨g, cap, e1, _⟩ := Kd.R_form h hp
  injection e1 with e1
  exact ⟨g, e1⟩
theorem R_ivw {α : Type} {d : Kd α} {e base a b : Nat} {ok : Nat → Prop} {w : World} {v : Value} {xs : List α} (h : d.R e w base ok v xs) (ha : a ≤ base) (hb : b ≤ base) : d.R e w b (Iv a w.heap.size) v xs := Kd.R_lower (Kd.R_mono (Kd.R_bound h) (fun _ hk => ⟨Nat.le_trans ha hk.2.1, hk.2.2.1⟩)) hb
/-- A row whose elements hold no rows lies in its own block alone. -/
theorem R_flat {α : Type} {d : Kd α} {e base : Nat} {ok ok' : Nat → Prop} {w : World} {v : Value} {xs : List α} (hf : ∀ (w : World) (b : Nat) (p q : Nat → Prop) x cs, d.M w b p x cs → d.M w b q x cs) (h : d.R e w base ok v xs) (h0 : ∀ k, v.ownBlock = some k → ok' k) : d.R e w base ok' v xs := ⟨h0, h.2.imp_ (fun _ _ hp => hf _ _ _ _ _ _ hp)⟩
theorem flat_int (w : World) (b : Nat) (p q : Nat → Prop) (x : Int) (cs : List Value) (h : (Kd.int .i64).M w b p x cs) : (Kd.int .i64).M w b q x cs := h
theorem cellsOfD {w : World} {b o m : Nat} {xs : List Int} (h : (Kd.int .i64).C w (some ⟨b, o, none⟩) m xs) : ∀ j, j < xs.length → w.cell? ⟨b, o + j, none⟩ = some (.int .i64 (xs.getD j 0)) := by
  intro j hj
  have hl := Kd.C_len h
  obtain ⟨ad, e, hc⟩ := Kd.at_int h (j : Int) (by omega) (by omega)
  injection e with e
  subst e
  rw [add_at, Int.toNat_natCast] at hc
  exact hc
theorem R_C {α : Type} {d : Kd α} {e base : Nat} {ok : Nat → Prop} {w : World} {A : Option Addr} {n c : Nat} {xs : List α} (h : d.R e w base ok (.slice A n c) xs) : d.C w A n xs := by
  obtain ⟨rfl, _, hc⟩ := Kd.R_reads' h
  exact hc
theorem R_cap {α : Type} {d : Kd α} {e base : Nat} {ok : Nat → Prop} {w : World} {A : Option Addr} {n c : Nat} {xs : List α} (h : d.R e w base ok (.slice A n c) xs) : n ≤ c := (Kd.R_reads' h).2.1
theorem R_same {α : Type} {d : Kd α} {e base : Nat} {ok : Nat → Prop} {w w1 : World} {v : Value} {xs : List α} (h : d.R e w base ok v xs) (hg : w.grownBy w1 none) : d.R e w1 base ok v xs := Kd.R_grown h hg (fun _ _ e => by cases e)
theorem R_block {α : Type} {d : Kd α} {e base g n c : Nat} {ok : Nat → Prop} {w : World} {xs : List α} (h : d.R e w base ok (.slice (some ⟨g, 0, none⟩) n c) xs) (hp : 0 < n) : ∃ cells, w.heap[g]? = some (.cells cells e (0, 0)) := by
  obtain ⟨e1, _, _⟩ := Kd.R_reads' h
  obtain ⟨g', cap, e2, _, _, cells, h3⟩ := Kd.R_form h (by omega)
  injection e2 with e2 _ _
  injection e2 with e2
  injection e2 with e2
  subst e2
  exact ⟨cells, h3⟩
theorem ba_ {w W : World} (h : Below w.heap.size w W) (o : Obj) : Below w.heap.size w (W.alloc o) := below_alloc h o
theorem bn_ {B : Nat} {w W : World} (h : Below B w W) (n : Nat) : Below B w (W.drewN n) := pw_below_drewN h n
theorem bd_ {B : Nat} {w W : World} (h : Below B w W) : Below B w W.drew := below_drew1 h
theorem ca_ {α : Type} {d : Kd α} {w : World} {xs : List α} {A : Option Addr} {n : Nat} (h : d.C w A n xs) (o : Obj) : d.C (w.alloc o) A n xs := Kd.C_alloc h o
theorem cn_ {α : Type} {d : Kd α} {w : World} {xs : List α} {A : Option Addr} {n : Nat} (h : d.C w A n xs) (m : Nat) : d.C (w.drewN m) A n xs := Kd.C_drewN h m
theorem cd_ {α : Type} {d : Kd α} {w : World} {xs : List α} {A : Option Addr} {n : Nat} (h : d.C w A n xs) : d.C w.drew A n xs := Kd.C_drew h
theorem ra_ {α : Type} {d : Kd α} {w : World} {xs : List α} {e : TypeId} {base : Nat} {ok : Nat → Prop} {v : Value} (h : d.R e w base ok v xs) (o : Obj) : d.R e (w.alloc o) base ok v xs := Kd.R_alloc h o
theorem rn_ {α : Type} {d : Kd α} {w : World} {xs : List α} {e : TypeId} {base : Nat} {ok : Nat → Prop} {v : Value} (h : d.R e w base ok v xs) (m : Nat) : d.R e (w.drewN m) base ok v xs := Kd.R_drewN h m
theorem rd_ {α : Type} {d : Kd α} {w : World} {xs : List α} {e : TypeId} {base : Nat} {ok : Nat → Prop} {v : Value} (h : d.R e w base ok v xs) : d.R e w.drew base ok v xs := Kd.R_drew h
theorem ka_ {w : World} {g : Nat} {o : Obj} (h : w.heap[g]? = some o) (o' : Obj) : (w.alloc o').heap[g]? = some o := blk_alloc h o'
theorem kd_ {w : World} {g : Nat} {o : Obj} (h : w.heap[g]? = some o) : w.drew.heap[g]? = some o := blk_drew h
theorem kn_ {w : World} {g : Nat} {o : Obj} (h : w.heap[g]? = some o) (n : Nat) : (w.drewN n).heap[g]? = some o := blk_drewN h n
theorem kf_ {w : World} {g : Nat} {t : TypeId} {cs : Array Value} (h : w.heap[g]? = some (.cells cs t (0, 0))) {p : Addr} (hp : g ≠ p.block) (u : Value) : (w.setCell p u).heap[g]? = some (.cells cs t (0, 0)) := blk_far h hp u
theorem own_ne {α : Type} {k : Kd α} {e base : Nat} {w : World} {ok : Nat → Prop} {v : Value} {xs : List α} (h : k.R e w base ok v xs) {g t : Nat} {cs : Array Value} (hb : w.heap[g]? = some (.cells cs t (0, 0))) (ht : e ≠ t) : some g ≠ v.ownBlock := by
  intro he
  obtain ⟨inner, ho⟩ := Kd.R_own h
  obtain ⟨cells, hc⟩ := own_typed ho g he.symm
  rw [hb] at hc
  injection hc with h1
  injection h1 with _ h2
  exact ht h2.symm
/-- The cursor of the draws, in its box at g: the code that it reads came in, its place is at most B. -/
def Cur (w0 w : World) (g : Nat) (code : List Int) (B : Int) : Prop :=
  w0.heap.size ≤ g ∧ (∀ x ∈ code, 0 ≤ x ∧ x ≤ 255) ∧ ∃ (A : Option Addr) (c : Nat) (p s : Int), w.heap[g]? = some (.cells #[.slice A code.length c, .int .i64 p, .int .u64 s] 74 (0, 0)) ∧ (Kd.int .u8).C w0 A code.length code ∧ 0 ≤ p ∧ p ≤ B
theorem Cur.blk {w0 w : World} {g : Nat} {code : List Int} {B : Int} (h : Cur w0 w g code B) : ∃ cs, w.heap[g]? = some (.cells cs 74 (0, 0)) := by
  obtain ⟨_, _, A, c, p, s, h1, _⟩ := h
  exact ⟨_, h1⟩
theorem Cur.ge {w0 w : World} {g : Nat} {code : List Int} {B : Int} (h : Cur w0 w g code B) : w0.heap.size ≤ g := h.1
theorem Cur.lt {w0 w : World} {g : Nat} {code : List Int} {B : Int} (h : Cur w0 w g code B) : g < w.heap.size := by
  obtain ⟨cs, h1⟩ := h.blk
  exact blk_lt h1
theorem Cur.step {w0 w w1 : World} {g : Nat} {code : List Int} {B B' : Int} (h : Cur w0 w g code B) (hg : w1.heap[g]? = w.heap[g]?) (hb : B ≤ B') : Cur w0 w1 g code B' := by
  obtain ⟨h0, h1, A, c, p, s, h2, h3, h4, h5⟩ := h
  exact ⟨h0, h1, A, c, p, s, by rw [hg]; exact h2, h3, h4, by omega⟩
theorem Cur.below {w0 w w1 : World} {g : Nat} {code : List Int} {B : Int} (h : Cur w0 w g code B) (hb : Below w.heap.size w w1) : Cur w0 w1 g code B := by
  obtain ⟨h0, h1, A, c, p, s, h2, h3⟩ := h
  exact ⟨h0, h1, A, c, p, s, blk_below h2 hb, h3⟩
theorem Cur.drew {w0 w : World} {g : Nat} {code : List Int} {B : Int} (h : Cur w0 w g code B) : Cur w0 w.drew g code B := h
theorem Cur.drewN {w0 w : World} {g : Nat} {code : List Int} {B : Int} (h : Cur w0 w g code B) (n : Nat) : Cur w0 (w.drewN n) g code B := h
theorem Cur.alloc {w0 w : World} {g : Nat} {code : List Int} {B : Int} (h : Cur w0 w g code B) (o : Obj) : Cur w0 (w.alloc o) g code B := h.below (below_alloc (Below.refl _ _) o)
theorem Cur.new {w0 w : World} {A : Option Addr} {c : Nat} {code : List Int} (hb : Below w0.heap.size w0 w) (hc : (Kd.int .u8).C w0 A code.length code) (hx : ∀ x ∈ code, 0 ≤ x ∧ x ≤ 255) : Cur w0 (w.alloc (.cells #[.slice A code.length c, .int .i64 0, .int .u64 0] 74 (0, 0))) w.heap.size code 0 := ⟨below_size hb, hx, A, c, 0, 0, blk_new w _, hc, by decide, by decide⟩
/-- A row of one's own keeps what it holds while the cursor goes on. -/
theorem R_draw {α : Type} {d : Kd α} {e base : Nat} {w0 w w1 : World} {v : Value} {xs : List α} {g : Nat} {code : List Int} {B : Int} {ok : Nat → Prop} (hf : ∀ (w : World) (b : Nat) (p q : Nat → Prop) x cs, d.M w b p x cs → d.M w b q x cs) (h : d.R e w base ok v xs) (hI : Cur w0 w g code B) (ht : e ≠ 74) (hk : KeepBut w w1 g none) : d.R e w1 base (fun _ => True) v xs := by
  obtain ⟨cs, hb⟩ := hI.blk
  have h1 : d.R e w base (fun k => k ≠ g) v xs := R_flat hf h (fun k hk he => own_ne h hb ht (by rw [hk, he]))
  exact Kd.R_mono (Kd.R_keep h1 hk (fun _ h => h)) (fun _ _ => trivial)
theorem R_ne {α : Type} {d : Kd α} {e base : Nat} {w0 w : World} {A : Option Addr} {n c : Nat} {xs : List α} {g : Nat} {code : List Int} {B : Int} {ok : Nat → Prop} (h : d.R e w base ok (.slice A n c) xs) (hI : Cur w0 w g code B) (ht : e ≠ 74) : ∀ ad, A = some ad → 0 < n → ad.block ≠ g := by
  intro ad he hn hg
  obtain ⟨cs, hb⟩ := hI.blk
  subst he
  obtain ⟨e1, _, _⟩ := Kd.R_reads' h
  obtain ⟨b, cap, e2, _⟩ := Kd.R_form h (by omega)
  injection e2 with e2
  injection e2 with e2
  subst e2
  obtain ⟨cells, hc⟩ := R_block h hn
  rw [show b = g from hg, hb] at hc
  injection hc with h1
  injection h1 with _ h2
  exact ht h2.symm
theorem seed_bd (x : Int) : 0 ≤ Go.bits .and .u64 (IntKind.u64.wrap x / 1099511627776) 255 ∧ Go.bits .and .u64 (IntKind.u64.wrap x / 1099511627776) 255 ≤ 255 := by
  have hw : ∀ n : Int, 0 ≤ n → n < 2 ^ 64 → IntKind.u64.wrap n = n := fun n h1 h2 => by
    have e : IntKind.u64.wrap n = n % 18446744073709551616 := by simp [IntKind.wrap, IntKind.bits, IntKind.signed]
    rw [e]; omega
  have e : IntKind.u64.wrap x = x % 18446744073709551616 := by simp [IntKind.wrap, IntKind.bits, IntKind.signed]
  rw [e]
  obtain ⟨y, hy⟩ : ∃ y, y = x % 18446744073709551616 / 1099511627776 := ⟨_, rfl⟩
  have hb : 0 ≤ y ∧ y < 2 ^ 64 := by omega
  rw [← hy]
  have h := Go.bits_mask .u64 64 (by decide) hw 8 (by decide) y hb.1 hb.2
  have h2 : Go.bits .and .u64 y 255 = y % 256 := h
  rw [h2]; omega
theorem wrap_small (v : Int) (h : 0 ≤ v ∧ v ≤ 255) : IntKind.i64.wrap v = v := IntWalk.i64_in _ (by omega)
set_option maxHeartbeats 8000000 in
set_option maxRecDepth 100000 in
theorem next_c (g : Nat) (code : List Int) (B : Int) (w0 w : World) (hI : Cur w0 w g code B) (hB : Below w0.heap.size w0 w) (hb : B ≤ 1000000000000) :
    Calls Try.prog 81 #[.pointer (some ⟨g, 0, none⟩)] w fun e w' => ∃ v, e = .returned (.int .i64 v) ∧ (0 ≤ v ∧ v ≤ 255) ∧ Cur w0 w' g code (B + 1) ∧ Below w0.heap.size w0 w' ∧ KeepBut w w' g none := by
  obtain ⟨hge, hx, A, c, p, s, hg, hc, hp0, hp1⟩ := hI
  have BKg := am_ hg
  have GEg := am_ hge
  have HX := am_ hx
  have HC := am_ hc
  have HB := am_ hB
  have HK := am_ (KeepBut.refl w g none)
  have hbd : p ≤ 1000000000000 := by omega
  have HP := am_ (show p + 1 ≤ B + 1 from by omega)
  clear hg hge hx hc hB hp1
  by_cases cl : p < code.length
  · have c1 : decide (p < (code.length : Int)) = true := decide_eq_true cl
    have c2 : decide (p + 1 ≤ (code.length : Int)) = true := decide_eq_true (by omega)
    obtain ⟨ad, e1, hcx⟩ := Kd.at_int HC.out p hp0 cl
    cases e1
    replace hcx := HB.out.cell (World.block_lt_of_cell? w0 _ hcx) |>.trans hcx
    obtain ⟨x, hxe⟩ : ∃ x, x = rd code p := ⟨_, rfl⟩
    have hxb : 0 ≤ x ∧ x ≤ 255 := by
      rw [hxe, rd, List.getD_eq_getElem?_getD, List.getElem?_eq_getElem (by omega)]
      exact HX.out _ (List.getElem_mem _)
    rw [← hxe] at hcx
    have hwx := wrap_small x hxb
    have HXB := am_ hxb
    have p1 : (0 ≤ p) = True := eq_true hp0
    have p2 : (p < (code.length : Int)) = True := eq_true cl
    clear hxe hxb
    have yg_0 : w.cell? ⟨g, 0, none⟩ = some (.slice (some ad) code.length c) := (blk_cell BKg.out 0).trans rfl; have fg_0 := blk_frozen BKg.out 0; have yg_1 : w.cell? ⟨g, 1, none⟩ = some (.int .i64 p) := (blk_cell BKg.out 1).trans rfl; have fg_1 := blk_frozen BKg.out 1; have yg_2 : w.cell? ⟨g, 2, none⟩ = some (.int .u64 s) := (blk_cell BKg.out 2).trans rfl; have fg_2 := blk_frozen BKg.out 2
    go_enter Try.func81, Try.ntmps81
    go_wp2
    repeat (go_quiet (fail); try go_wp2)
    go_ret
    exact ⟨x, rfl, HXB.out, ⟨GEg.out, HX.out, some ad, c, p + 1, _, (by (with_reducible repeat first | refine kn_ ?_ _ | refine kd_ ?_ | refine ka_ ?_ _); refine blk_put (cs := #[.slice (some ad) code.length c, .int .i64 (p + 1), .int .u64 s]) ?_ 2 _ rfl; (with_reducible repeat first | refine kn_ ?_ _ | refine kd_ ?_ | refine ka_ ?_ _); refine blk_put (cs := #[.slice (some ad) code.length c, .int .i64 p, .int .u64 s]) ?_ 1 _ rfl; (with_reducible repeat first | refine kn_ ?_ _ | refine kd_ ?_ | refine ka_ ?_ _); exact BKg.out), HC.out, by omega, HP.out⟩, (by repeat first | (with_reducible first | exact HB.out | apply ba_ | apply bn_ | apply bd_ | refine below_set ?_ GEg.out) | exact HB.out), by repeat (first | (with_reducible first | exact HK.out | apply KeepBut.set_ | apply keep_drewN | apply keep_drew | apply keep_alloc) | exact HK.out)⟩
  · have c1 : decide (p < (code.length : Int)) = false := decide_eq_false cl
    have c2 : decide (p + 1 ≤ (code.length : Int)) = false := decide_eq_false (by omega)
    have yg_0 : w.cell? ⟨g, 0, none⟩ = some (.slice A code.length c) := (blk_cell BKg.out 0).trans rfl; have fg_0 := blk_frozen BKg.out 0; have yg_1 : w.cell? ⟨g, 1, none⟩ = some (.int .i64 p) := (blk_cell BKg.out 1).trans rfl; have fg_1 := blk_frozen BKg.out 1; have yg_2 : w.cell? ⟨g, 2, none⟩ = some (.int .u64 s) := (blk_cell BKg.out 2).trans rfl; have fg_2 := blk_frozen BKg.out 2
    go_enter Try.func81, Try.ntmps81
    go_wp2
    repeat (go_quiet (fail); try go_wp2)
    go_ret
    refine ⟨_, rfl, ?_, ⟨GEg.out, HX.out, A, c, p + 1, _, (by (with_reducible repeat first | refine kn_ ?_ _ | refine kd_ ?_ | refine ka_ ?_ _); refine blk_put (cs := #[.slice A code.length c, .int .i64 (p + 1), .int .u64 s]) ?_ 2 _ rfl; (with_reducible repeat first | refine kn_ ?_ _ | refine kd_ ?_ | refine ka_ ?_ _); refine blk_put (cs := #[.slice A code.length c, .int .i64 p, .int .u64 s]) ?_ 1 _ rfl; (with_reducible repeat first | refine kn_ ?_ _ | refine kd_ ?_ | refine ka_ ?_ _); exact BKg.out), HC.out, by omega, HP.out⟩, (by repeat first | (with_reducible first | exact HB.out | apply ba_ | apply bn_ | apply bd_ | refine below_set ?_ GEg.out) | exact HB.out), by repeat (first | (with_reducible first | exact HK.out | apply KeepBut.set_ | apply keep_drewN | apply keep_drew | apply keep_alloc) | exact HK.out)⟩
    have h := seed_bd (IntKind.u64.wrap (IntKind.u64.wrap (s * 6364136223846793005)) + 902902)
    rw [wrapId (by omega)]
    exact h
/-- A row of numbers, as it lies. -/
def numsA (ls : List Int) : Array Value := (ls.map (fun x => Value.int .i64 x)).toArray
theorem C_blk {w : World} {b : Nat} {ls : List Int} (h : w.heap[b]? = some (.cells (numsA ls) 3 (0, 0))) {j : Nat} (hj : j < ls.length) : w.cell? ⟨b, j, none⟩ = some (.int .i64 (ls.getD j 0)) := by
  refine (blk_cell h j).trans ?_
  rw [numsA, List.getElem?_toArray, List.getElem?_map, List.getD_eq_getElem?_getD, List.getElem?_eq_getElem hj]
  rfl
theorem blk_ne {w : World} {b g t t' : Nat} {cs cs' : Array Value} (h : w.heap[b]? = some (.cells cs t (0, 0))) (h' : w.heap[g]? = some (.cells cs' t' (0, 0))) (ht : t ≠ t') : b ≠ g := by
  rintro rfl
  rw [h] at h'
  injection h' with h'
  injection h' with _ h'
  exact ht h'
/-- What a draw leaves: the cursor, what lay before, and all but the cursor's block. -/
def Dr (w0 w w' : World) (g : Nat) (code : List Int) (B : Int) : Prop := Cur w0 w' g code B ∧ Below w0.heap.size w0 w' ∧ KeepBut w w' g none
theorem Dr.refl {w0 w : World} {g : Nat} {code : List Int} {B B' : Int} (h : Cur w0 w g code B) (hb : Below w0.heap.size w0 w) (hB : B ≤ B') : Dr w0 w w g code B' := ⟨h.step rfl hB, hb, KeepBut.refl w g none⟩
theorem Dr.trans {w0 w w1 w2 : World} {g : Nat} {code : List Int} {B B' : Int} (h : Dr w0 w w1 g code B) (k : Dr w0 w1 w2 g code B') : Dr w0 w w2 g code B' := ⟨k.1, k.2.1, h.2.2.trans k.2.2 (.inl rfl)⟩
theorem Dr.more {w0 w w1 : World} {g : Nat} {code : List Int} {B B' : Int} (h : Dr w0 w w1 g code B) (hB : B ≤ B') : Dr w0 w w1 g code B' := ⟨h.1.step rfl hB, h.2⟩
set_option maxHeartbeats 8000000 in
set_option maxRecDepth 100000 in
theorem pick_c (n : Int) (hn : n ≤ 200) (g : Nat) (code : List Int) (B : Int) (w0 w : World) (hI : Cur w0 w g code B) (hB : Below w0.heap.size w0 w) (hb : B ≤ 900000000000) :
    Calls Try.prog 75 #[.pointer (some ⟨g, 0, none⟩), .int .i64 n] w fun e w' => ∃ v, e = .returned (.int .i64 v) ∧ (0 ≤ v ∧ (1 ≤ n → v < n)) ∧ Dr w0 w w' g code (B + 1) := by
  by_cases h1 : n ≤ 1
  · have HD := am_ (Dr.refl hI hB (show B ≤ B + 1 by omega))
    have c1 : decide (n ≤ 1) = true := decide_eq_true h1
    clear hI hB
    go_enter Try.func75, Try.ntmps75
    go_wp2
    go_ret
    exact ⟨0, rfl, ⟨by omega, by omega⟩, HD.out⟩
  · have c1 : decide (n ≤ 1) = false := decide_eq_false h1
    have c2 : decide (200 < n) = false := decide_eq_false (by omega)
    have HN := am_ (next_c g code B w0 w hI hB (by omega))
    have hnz : ¬ n = 0 := by omega
    clear hI hB
    go_enter Try.func75, Try.ntmps75
    go_wp2_with fail
    refine HN.out.mono ?_
    rintro e w1 ⟨x, rfl, hx, hc, hb1, hk⟩
    have HD := am_ (show Dr w0 w w1 g code (B + 1) from ⟨hc, hb1, hk⟩)
    have hme : x.tmod n = x % n := Int.tmod_eq_emod_of_nonneg hx.1
    have hm : 0 ≤ x % n ∧ x % n < n := ⟨Int.emod_nonneg _ hnz, Int.emod_lt_of_pos _ (by omega)⟩
    have HM := am_ hm
    have hw : wrap64 (x % n) = x % n := wrapId (by omega)
    have x0 := hx.1
    clear hc hb1 hk hm
    go_wp2
    go_ret
    exact ⟨_, rfl, ⟨HM.out.1, fun _ => HM.out.2⟩, HD.out⟩
set_option maxHeartbeats 8000000 in
set_option maxRecDepth 100000 in
theorem among_c (ls : List Int) (b n cap : Nat) (hn : 1 ≤ n ∧ n ≤ ls.length ∧ n ≤ 200) (g : Nat) (code : List Int) (B : Int) (w0 w : World) (hI : Cur w0 w g code B) (hB : Below w0.heap.size w0 w) (hb : B ≤ 900000000000) (hl : w.heap[b]? = some (.cells (numsA ls) 3 (0, 0))) :
    Calls Try.prog 76 #[.pointer (some ⟨g, 0, none⟩), .slice (some ⟨b, 0, none⟩) n cap] w fun e w' => ∃ v, e = .returned (.int .i64 v) ∧ v ∈ ls ∧ Dr w0 w w' g code (B + 1) := by
  obtain ⟨cs, hcs⟩ := hI.blk
  have hne := blk_ne hl hcs (by decide)
  have HP := am_ (pick_c (n : Int) (by omega) g code B w0 w hI hB hb)
  have HL := am_ hl
  have n1 := hn.1
  have n2 := hn.2.1
  clear hcs hI hB hl hn
  go_enter Try.func76, Try.ntmps76
  go_wp2_with fail
  refine HP.out.mono ?_
  rintro e w1 ⟨v, rfl, ⟨v0, v1⟩, hd⟩
  have HD := am_ hd
  have v2 := v1 (by omega)
  obtain ⟨k, rfl⟩ : ∃ k : Nat, v = k := ⟨v.toNat, by omega⟩
  have hkn : k < ls.length := by omega
  have hy : w1.cell? ⟨b, k, none⟩ = some (.int .i64 (ls.getD k 0)) := C_blk (hd.2.2.blk HL.out hne (by simp)) hkn
  obtain ⟨x, hx⟩ : ∃ x, x = ls.getD k 0 := ⟨_, rfl⟩
  have HX := am_ (show x ∈ ls from by rw [hx, List.getD_eq_getElem?_getD, List.getElem?_eq_getElem hkn]; exact List.getElem_mem hkn)
  rw [← hx] at hy
  have tk : (k : Int).toNat = k := Int.toNat_natCast k
  clear hd hx v1 hkn
  go_wp2
  go_ret
  exact ⟨x, rfl, HX.out, HD.out⟩
theorem Dr.cur {w0 w w1 : World} {g : Nat} {code : List Int} {B : Int} (h : Dr w0 w w1 g code B) : Cur w0 w1 g code B := h.1
theorem Dr.below {w0 w w1 : World} {g : Nat} {code : List Int} {B : Int} (h : Dr w0 w w1 g code B) : Below w0.heap.size w0 w1 := h.2.1
theorem Dr.drew {w0 w w1 : World} {g : Nat} {code : List Int} {B : Int} (h : Dr w0 w w1 g code B) : Dr w0 w w1.drew g code B := ⟨h.1, below_drew1 h.2.1, keep_drew h.2.2⟩
theorem Dr.drewN {w0 w w1 : World} {g : Nat} {code : List Int} {B : Int} (h : Dr w0 w w1 g code B) (n : Nat) : Dr w0 w (w1.drewN n) g code B := ⟨h.1, pw_below_drewN h.2.1 n, keep_drewN h.2.2 n⟩
theorem Dr.alloc {w0 w w1 : World} {g : Nat} {code : List Int} {B : Int} (h : Dr w0 w w1 g code B) (o : Obj) : Dr w0 w (w1.alloc o) g code B := ⟨h.1.alloc o, below_alloc h.2.1 o, keep_alloc h.2.2 o⟩
/-- A row's block is none that lay in w. -/
def Late (w : World) (v : Value) : Prop := ∀ k, v.ownBlock = some k → w.heap.size ≤ k
theorem Late.lit {w w1 : World} {v : Value} (hs : w.heap.size ≤ w1.heap.size) (hn : ∃ b, v.ownBlock = some b ∧ w1.heap.size ≤ b) : Late w v := by
  obtain ⟨b, e, hb⟩ := hn
  intro k hk
  rw [e] at hk
  injection hk with hk
  omega
theorem Late.app {w w1 : World} {v v1 : Value} (h : Late w v) (hs : w.heap.size ≤ w1.heap.size) (hat : v1.ownBlock = v.ownBlock ∨ ∃ b, v1.ownBlock = some b ∧ w1.heap.size ≤ b) : Late w v1 := by
  rcases hat with e | hn
  · intro k hk; exact h k (e ▸ hk)
  · exact Late.lit hs hn
theorem Dr.grown {w0 w w1 w2 : World} {g : Nat} {code : List Int} {B : Int} {v : Value} (h : Dr w0 w w1 g code B) (hg : w1.grownBy w2 v.ownBlock) (hl : Late w v) (hb : Below w0.heap.size w0 w2) (hne : some g ≠ v.ownBlock) : Dr w0 w w2 g code B :=
  ⟨h.1.step (hg.block g h.1.lt hne) (Int.le_refl _), hb, ⟨Nat.le_trans h.2.2.1 hg.size, fun i hi hgi hr => (hg.block i (Nat.lt_of_lt_of_le hi h.2.2.1) (fun e => by have := hl i e.symm; omega)).trans (h.2.2.2 i hi hgi hr)⟩⟩
theorem Dr.lit {w0 w w1 w2 : World} {g : Nat} {code : List Int} {B : Int} (h : Dr w0 w w1 g code B) (hg : w1.grownBy w2 none) (hb : Below w0.heap.size w0 w2) : Dr w0 w w2 g code B :=
  ⟨h.1.step (hg.block g h.1.lt (by simp)) (Int.le_refl _), hb, ⟨Nat.le_trans h.2.2.1 hg.size, fun i hi hgi hr => (hg.block i (Nat.lt_of_lt_of_le hi h.2.2.1) (by simp)).trans (h.2.2.2 i hi hgi hr)⟩⟩
theorem Dr.size {w0 w w1 : World} {g : Nat} {code : List Int} {B : Int} (h : Dr w0 w w1 g code B) : w.heap.size ≤ w1.heap.size := h.2.2.1
/-- A row of one's own behind a draw. -/
theorem R_dr {α : Type} {d : Kd α} {e base : Nat} {w0 w w1 : World} {v : Value} {xs : List α} {g : Nat} {code : List Int} {B B' : Int} (hf : ∀ (w : World) (b : Nat) (p q : Nat → Prop) x cs, d.M w b p x cs → d.M w b q x cs) (h : d.R e w base (fun _ => True) v xs) (hI : Cur w0 w g code B) (ht : e ≠ 74) (hd : Dr w0 w w1 g code B') : d.R e w1 base (fun _ => True) v xs := R_draw hf h hI ht hd.2.2
theorem own_cur {α : Type} {d : Kd α} {e base : Nat} {ok : Nat → Prop} {w0 w : World} {v : Value} {xs : List α} {g : Nat} {code : List Int} {B : Int} (h : d.R e w base ok v xs) (hI : Cur w0 w g code B) (ht : e ≠ 74) : some g ≠ v.ownBlock := by
  obtain ⟨cs, hb⟩ := hI.blk
  exact own_ne h hb ht
theorem Dr.set {w0 w w1 : World} {g : Nat} {code : List Int} {B : Int} (h : Dr w0 w w1 g code B) {q : Nat} (hq : w.heap.size ≤ q) (hb : w0.heap.size ≤ w.heap.size) (hg : g ≠ q) (j : Nat) (v : Value) : Dr w0 w (w1.setCell ⟨q, j, none⟩ v) g code B :=
  ⟨h.1.step (Below.heap_setCell w1 ⟨q, j, none⟩ v g hg) (Int.le_refl _), below_set h.2.1 (Nat.le_trans hb hq), keep_far h.2.2 hq v⟩
theorem Dr.bel {w0 w w1 w2 : World} {g : Nat} {code : List Int} {B : Int} (h : Dr w0 w w1 g code B) (hb : Below w1.heap.size w1 w2) : Dr w0 w w2 g code B :=
  ⟨h.1.below hb, below_step h.2.1 hb, h.2.2.trans (KeepBut.of_below hb g none) (.inl rfl)⟩
set_option maxHeartbeats 16000000 in
set_option maxRecDepth 100000 in
theorem one_c (n : Int) (hn : 1 ≤ n ∧ n ≤ 200) (g : Nat) (code : List Int) (B : Int) (w wa : World) (hI : Cur w wa g code B) (hB : Below w.heap.size w wa) (hb : B ≤ 800000000000) :
    Calls Try.prog 79 #[.pointer (some ⟨g, 0, none⟩), .int .i64 n] wa fun e w' => ∃ x : Bool, e = .returned (.bool x) ∧ Dr w wa w' g code (B + 1) := by
  have HD := am_ (Dr.refl hI hB (Int.le_refl B))
  have HB := am_ hB
  clear hI hB
  go_enter Try.func79, Try.ntmps79
  go_wp2_with fail
  refine (pick_c n hn.2 g code _ w _ HD.out.cur HB.out (by omega)).mono ?_
  rintro e w2 ⟨v, rfl, _, hd⟩
  have k_ := am_ (Dr.trans (by repeat first | exact HD.out | apply Dr.alloc | apply Dr.drewN | apply Dr.drew) hd)
  clear hd HD HB
  have HD := k_
  clear k_
  have HB := am_ HD.out.below
  by_cases hv : v = 0
  · have q1 : (v == 0) = true := by simp [hv]
    have q2 : decide (v = 0) = true := decide_eq_true hv
    clear hv
    go_wp2
    go_ret
    exact ⟨true, rfl, HD.out.more (by omega)⟩
  · have q1 : (v == 0) = false := by simp [hv]
    have q2 : decide (v = 0) = false := decide_eq_false hv
    clear hv
    go_wp2
    go_ret
    exact ⟨false, rfl, HD.out.more (by omega)⟩
theorem infoI : (Try.prog.info? 3).map (fun i => (i.zero, i.size, i.bytes)) = some (some (.int .i64 0), 1, 8) := by kernel_rfl
theorem flat_Claim (w : World) (b : Nat) (p q : Nat → Prop) (x : S54) (cs : List Value) (h : k54.M w b p x cs) : k54.M w b q x cs := by
  obtain rfl := k54_openM h
  exact k54_mkM w b q x

def lenOfC : Value → Nat
  | .slice _ n _ => n
  | _ => 0
theorem infoCl : (Try.prog.info? 54).map (fun i => (i.zero, i.size, i.bytes)) = some (some (.agg #[(.int .i64 0), (.int .i64 0), (.int .i64 0)]), 3, 24) := by kernel_rfl
set_option maxHeartbeats 16000000 in
set_option maxRecDepth 100000 in
theorem claims_c (most : Int) (hmost : 0 ≤ most ∧ most ≤ 20) (g : Nat) (code : List Int) (B : Int) (w wa : World) (hI : Cur w wa g code B) (hB : Below w.heap.size w wa) (hb : B ≤ 600000000000) :
    Calls Try.prog 68 #[.pointer (some ⟨g, 0, none⟩), .int .i64 most] wa fun e w' => ∃ v p xs, e = .returned (.tuple #[v, .int .i64 p]) ∧ Kd.R k54 54 w' w.heap.size (fun _ => True) v xs ∧ xs.length ≤ 100 ∧ (1 ≤ p ∧ p ≤ 9) ∧ Dr w wa w' g code (B + 1000) := by
  have HD := am_ (Dr.refl hI hB (Int.le_refl B))
  have HB := am_ hB
  obtain ⟨m0, m1⟩ := hmost
  clear hI hB
  go_enter Try.func68, Try.ntmps68
  go_wp2_with fail
  refine (pick_c 4 (by omega) g code _ w _ HD.out.cur HB.out (by omega)).mono ?_
  rintro e w3 ⟨z, rfl, ⟨z0, z1⟩, hd⟩
  have k_ := am_ (Dr.trans (by repeat first | exact HD.out | apply Dr.alloc | apply Dr.drewN | apply Dr.drew) hd)
  clear hd HD HB
  have HD := k_
  clear k_
  have HB := am_ HD.out.below
  have z2 := z1 (by decide)
  clear z1
  go_upto_region 2 with (fail)
  obtain ⟨p, hp⟩ : ∃ p, p = 2 + z := ⟨_, rfl⟩
  rw [← hp]
  have p0 : 2 ≤ p := by omega
  have p1 : p ≤ 5 := by omega
  have pz : (p == 0) = false := by rw [beq_eq_false_iff_ne]; omega
  clear hp z0 z2
  go_wp2_with (((with_reducible refine gate_dst (N := 14) rfl ?_); refine Kd.R_lit k54 w.heap.size 54 (w0 := w) ?hg (N := 14) ?hd (xs := []) (inner := []) (ok := fun _ => True) (okp := fun _ => True) ?hr ?hp (fun _ hk => hk) trivial (by repeat first | (with_reducible first | exact HB.out | apply ba_ | apply bn_ | apply bd_) | exact HB.out) (below_size (by repeat first | (with_reducible first | exact HB.out | apply ba_ | apply bn_ | apply bd_) | exact HB.out)) (by simp) ?_; (case hd => rfl); (case hg => rfl); (case hr => first | (go_simp; done) | (go_simp; rfl)); (case hp => exact (Reps.none _ _)); intro v1 w1 ho hb hgr hnw); have HO := am_ ho; have HL := am_ (Late.lit HD.out.size hnw); have n_ := am_ (HD.out.lit hgr hb); clear HB HD; have HD := n_; have HB := am_ hb; clear n_ ho hb hgr hnw)
  refine (pick_c (most + 1) (by omega) g code _ w _ HD.out.cur HB.out (by omega)).mono ?_
  rintro e w3 ⟨n, rfl, ⟨n0, n1⟩, hd⟩
  have n_ := am_ (R_dr flat_Claim (by (with_reducible repeat first | apply ra_ | apply rn_ | apply rd_); exact HO.out) (Dr.cur (by repeat first | exact HD.out | apply Dr.alloc | apply Dr.drewN | apply Dr.drew)) (by decide) hd)
  clear HO
  have HO := n_
  clear n_
  have k_ := am_ (Dr.trans (by repeat first | exact HD.out | apply Dr.alloc | apply Dr.drewN | apply Dr.drew) hd)
  clear hd HD HB
  have HD := k_
  clear k_
  have HB := am_ HD.out.below
  have n7 := n1 (by omega)
  clear n1
  go_wp2_with fail
  go_loopw [7, 8] (fun v7 v8 wr => ∃ (n : Int) (out : List S54), v8 = .int .i64 n ∧ Aside0 (0 ≤ n ∧ n ≤ 20) ∧ Aside0 ((out.length : Int) + n ≤ 20) ∧ Aside0 (Kd.R k54 54 wr w.heap.size (fun _ => True) v7 out) ∧ Aside0 (Late wa v7) ∧ Aside0 (Dr w wa wr g code (B + 200 - 4 * n))) (fun _ v8 _ => (intOf v8).toNat)
  case atStart => exact ⟨n, [], rfl, ⟨by omega⟩, ⟨by simp; omega⟩, ⟨(by (with_reducible repeat first | apply ra_ | apply rn_ | apply rd_); exact HO.out)⟩, HL, ⟨HD.out.more (by omega)⟩⟩
  case round =>
    clear HO HL HD HB n0 n7
    obtain ⟨n, out, rfl, HN, HLN, HO, HL, HD⟩ := hrel
    have HB := am_ HD.out.below
    have n0 := HN.out.1
    have n7 := HN.out.2
    have hol := HLN.out
    by_cases hn : 0 < n
    · have c1 : decide (0 < n) = true := decide_eq_true hn
      go_wp2_with fail
      refine (pick_c p (by omega) g code _ w _ HD.out.cur HB.out (by omega)).mono ?_
      rintro e w3 ⟨f, rfl, ⟨f0, f1⟩, hd⟩
      have n_ := am_ (R_dr flat_Claim (by (with_reducible repeat first | apply ra_ | apply rn_ | apply rd_); exact HO.out) (Dr.cur (by repeat first | exact HD.out | apply Dr.alloc | apply Dr.drewN | apply Dr.drew)) (by decide) hd)
      clear HO
      have HO := n_
      clear n_
      have k_ := am_ (Dr.trans (by repeat first | exact HD.out | apply Dr.alloc | apply Dr.drewN | apply Dr.drew) hd)
      clear hd HD HB
      have HD := k_
      clear k_
      have HB := am_ HD.out.below
      have f2 := f1 (by omega)
      clear f1
      go_wp2_with fail
      refine (pick_c (p - 1) (by omega) g code _ w _ HD.out.cur HB.out (by omega)).mono ?_
      rintro e w3 ⟨t, rfl, ⟨t0, t1⟩, hd⟩
      have n_ := am_ (R_dr flat_Claim (by (with_reducible repeat first | apply ra_ | apply rn_ | apply rd_); exact HO.out) (Dr.cur (by repeat first | exact HD.out | apply Dr.alloc | apply Dr.drewN | apply Dr.drew)) (by decide) hd)
      clear HO
      have HO := n_
      clear n_
      have k_ := am_ (Dr.trans (by repeat first | exact HD.out | apply Dr.alloc | apply Dr.drewN | apply Dr.drew) hd)
      clear hd HD HB
      have HD := k_
      clear k_
      have HB := am_ HD.out.below
      have t2 := t1 (by omega)
      clear t1
      go_wp2_with fail
      refine (among_c [1, 2, 5, 5, 10, 100, 1000000] _ 7 7 (by decide) g code _ w _ (HD.out.alloc _).cur (ba_ HB.out _) (by omega) (blk_new _ _)).mono ?_
      rintro e w4 ⟨x, rfl, _, hd⟩
      have n_ := am_ (R_dr flat_Claim (by (with_reducible repeat first | apply ra_ | apply rn_ | apply rd_); exact HO.out) (Dr.cur (by repeat first | exact HD.out | apply Dr.alloc | apply Dr.drewN | apply Dr.drew)) (by decide) hd)
      clear HO
      have HO := n_
      clear n_
      have k_ := am_ (Dr.trans (by repeat first | exact HD.out | apply Dr.alloc | apply Dr.drewN | apply Dr.drew) hd)
      clear hd HD HB
      have HD := k_
      clear k_
      have HB := am_ HD.out.below
      go_wp2_with (((with_reducible refine gate_builtin (b := .append) (xs := #[.tmp 35, .tmp 42]) rfl ?_); at_builtin; refine Kd.R_append k54 (w0 := w) w.heap.size rfl (.tmp 35) (.tmp 42) 25 54 (.agg #[(.int .i64 0), (.int .i64 0), (.int .i64 0)]) 24 rfl Try.underlying25 infoCl rfl (by decide) (by omega) u7 out (⟨f, ((f + 1 + t) % p), x⟩ : S54) [.int .i64 f, .int .i64 ((f + 1 + t) % p), .int .i64 x] (fun _ => True) (fun _ => False) rfl rfl ?aP (fun _ hk => hk.elim) ?aF ?aO ?aB ?aS ?aL ?_; (case aP => exact k54_mkM _ _ _ _); (case aB => exact (by repeat first | (with_reducible first | exact HB.out | apply ba_ | apply bn_ | apply bd_) | exact HB.out)); (case aF => exact (fun _ _ => trivial)); (case aO => exact (by (with_reducible repeat first | apply ra_ | apply rn_ | apply rd_); exact HO.out)); (case aS => exact (below_size (by repeat first | (with_reducible first | exact HB.out | apply ba_ | apply bn_ | apply bd_) | exact HB.out))); (case aL => omega); intro v1 w1 ho hb hg hat); have n_ := am_ ho; have l_ := am_ (HL.out.app HD.out.size hat); have k_ := am_ (HD.out.grown hg HL.out hb (own_cur HO.out HD.out.cur (by decide))); clear HO HL HD HB; have HO := n_; have HL := l_; have HD := k_; have HB := am_ hb; clear n_ l_ k_ ho hb hg hat)
      go_roundw
      case rel => exact ⟨n - 1, out ++ [⟨f, (f + 1 + t) % p, x⟩], by go_num, ⟨by omega⟩, ⟨by rw [List.length_append, List.length_singleton]; push_cast; omega⟩, ⟨(by (with_reducible repeat first | apply ra_ | apply rn_ | apply rd_); exact HO.out)⟩, HL, ⟨HD.out.more (by omega)⟩⟩
      case measure => simp [intOf]; omega
    · have c1 : decide (0 < n) = false := decide_eq_false hn
      have HOL := am_ (show out.length ≤ 20 from by omega)
      go_wp2_with fail
      refine (pick_c 40 (by omega) g code _ w _ HD.out.cur HB.out (by omega)).mono ?_
      rintro e w3 ⟨v, rfl, ⟨v0, v1⟩, hd⟩
      have n_ := am_ (R_dr flat_Claim (by (with_reducible repeat first | apply ra_ | apply rn_ | apply rd_); exact HO.out) (Dr.cur (by repeat first | exact HD.out | apply Dr.alloc | apply Dr.drewN | apply Dr.drew)) (by decide) hd)
      clear HO
      have HO := n_
      clear n_
      have k_ := am_ (Dr.trans (by repeat first | exact HD.out | apply Dr.alloc | apply Dr.drewN | apply Dr.drew) hd)
      clear hd HD HB
      have HD := k_
      clear k_
      have HB := am_ HD.out.below
      have hol2 := HOL.out
      clear v0 v1 hol hn
      by_cases e0 : v = 0
      · have q0 : (v == 0) = true := by simp [e0]
        have z0 : decide (v = 0) = true := decide_eq_true e0
        clear e0
        go_wp2_with fail
        refine (among_c [1, 9, 8] _ 3 3 (by decide) g code _ w _ (HD.out.alloc _).cur (ba_ HB.out _) (by omega) (blk_new _ _)).mono ?_
        rintro e w4 ⟨x, rfl, hx, hd⟩
        have n_ := am_ (R_dr flat_Claim (by (with_reducible repeat first | apply ra_ | apply rn_ | apply rd_); exact HO.out) (Dr.cur (by repeat first | exact HD.out | apply Dr.alloc | apply Dr.drewN | apply Dr.drew)) (by decide) hd)
        clear HO
        have HO := n_
        clear n_
        have k_ := am_ (Dr.trans (by repeat first | exact HD.out | apply Dr.alloc | apply Dr.drewN | apply Dr.drew) hd)
        clear hd HD HB
        have HD := k_
        clear k_
        have HB := am_ HD.out.below
        have hx2 : 1 ≤ x ∧ x ≤ 9 := by simp at hx; omega
        clear hx
        go_wp2
        go_ret2
        exact ⟨_, _, _, rfl, (by (with_reducible repeat first | apply ra_ | apply rn_ | apply rd_); exact HO.out), by omega, by omega, HD.out.more (by omega)⟩
      have q0 : (v == 0) = false := by simp [e0]
      have z0 : decide (v = 0) = false := decide_eq_false e0
      clear e0
      by_cases e1 : v = 1
      · have q1 : (v == 1) = true := by simp [e1]
        have z1 : decide (v = 1) = true := decide_eq_true e1
        clear e1
        go_wp2_with fail
        refine (among_c [0, 9, -1] _ 3 3 (by decide) g code _ w _ (HD.out.alloc _).cur (ba_ HB.out _) (by omega) (blk_new _ _)).mono ?_
        rintro e w4 ⟨x, rfl, _, hd⟩
        have n_ := am_ (R_dr flat_Claim (by (with_reducible repeat first | apply ra_ | apply rn_ | apply rd_); exact HO.out) (Dr.cur (by repeat first | exact HD.out | apply Dr.alloc | apply Dr.drewN | apply Dr.drew)) (by decide) hd)
        clear HO
        have HO := n_
        clear n_
        have k_ := am_ (Dr.trans (by repeat first | exact HD.out | apply Dr.alloc | apply Dr.drewN | apply Dr.drew) hd)
        clear hd HD HB
        have HD := k_
        clear k_
        have HB := am_ HD.out.below
        go_wp2_with (((with_reducible refine gate_builtin (b := .append) (xs := #[.tmp 53, .tmp 58]) rfl ?_); at_builtin; refine Kd.R_append k54 (w0 := w) w.heap.size rfl (.tmp 53) (.tmp 58) 25 54 (.agg #[(.int .i64 0), (.int .i64 0), (.int .i64 0)]) 24 rfl Try.underlying25 infoCl rfl (by decide) (by omega) u7 out (⟨0, x, 1⟩ : S54) [.int .i64 0, .int .i64 x, .int .i64 1] (fun _ => True) (fun _ => False) rfl rfl ?aP (fun _ hk => hk.elim) ?aF ?aO ?aB ?aS ?aL ?_; (case aP => exact k54_mkM _ _ _ _); (case aB => exact (by repeat first | (with_reducible first | exact HB.out | apply ba_ | apply bn_ | apply bd_) | exact HB.out)); (case aF => exact (fun _ _ => trivial)); (case aO => exact (by (with_reducible repeat first | apply ra_ | apply rn_ | apply rd_); exact HO.out)); (case aS => exact (below_size (by repeat first | (with_reducible first | exact HB.out | apply ba_ | apply bn_ | apply bd_) | exact HB.out))); (case aL => omega); intro v1 w1 ho hb hg hat); have n_ := am_ ho; have l_ := am_ (HL.out.app HD.out.size hat); have k_ := am_ (HD.out.grown hg HL.out hb (own_cur HO.out HD.out.cur (by decide))); clear HO HL HD HB; have HO := n_; have HL := l_; have HD := k_; have HB := am_ hb; clear n_ l_ k_ ho hb hg hat)
        go_wp2
        go_ret2
        exact ⟨_, _, _, rfl, (by (with_reducible repeat first | apply ra_ | apply rn_ | apply rd_); exact HO.out), by simp; omega, by omega, HD.out.more (by omega)⟩
      have q1 : (v == 1) = false := by simp [e1]
      have z1 : decide (v = 1) = false := decide_eq_false e1
      clear e1
      by_cases e2 : v = 2
      · have q2 : (v == 2) = true := by simp [e2]
        have z2 : decide (v = 2) = true := decide_eq_true e2
        clear e2
        go_wp2_with fail
        refine (among_c [0, 1000000000, -5] _ 3 3 (by decide) g code _ w _ (HD.out.alloc _).cur (ba_ HB.out _) (by omega) (blk_new _ _)).mono ?_
        rintro e w4 ⟨x, rfl, _, hd⟩
        have n_ := am_ (R_dr flat_Claim (by (with_reducible repeat first | apply ra_ | apply rn_ | apply rd_); exact HO.out) (Dr.cur (by repeat first | exact HD.out | apply Dr.alloc | apply Dr.drewN | apply Dr.drew)) (by decide) hd)
        clear HO
        have HO := n_
        clear n_
        have k_ := am_ (Dr.trans (by repeat first | exact HD.out | apply Dr.alloc | apply Dr.drewN | apply Dr.drew) hd)
        clear hd HD HB
        have HD := k_
        clear k_
        have HB := am_ HD.out.below
        go_wp2_with (((with_reducible refine gate_builtin (b := .append) (xs := #[.tmp 62, .tmp 67]) rfl ?_); at_builtin; refine Kd.R_append k54 (w0 := w) w.heap.size rfl (.tmp 62) (.tmp 67) 25 54 (.agg #[(.int .i64 0), (.int .i64 0), (.int .i64 0)]) 24 rfl Try.underlying25 infoCl rfl (by decide) (by omega) u7 out (⟨0, 1, x⟩ : S54) [.int .i64 0, .int .i64 1, .int .i64 x] (fun _ => True) (fun _ => False) rfl rfl ?aP (fun _ hk => hk.elim) ?aF ?aO ?aB ?aS ?aL ?_; (case aP => exact k54_mkM _ _ _ _); (case aB => exact (by repeat first | (with_reducible first | exact HB.out | apply ba_ | apply bn_ | apply bd_) | exact HB.out)); (case aF => exact (fun _ _ => trivial)); (case aO => exact (by (with_reducible repeat first | apply ra_ | apply rn_ | apply rd_); exact HO.out)); (case aS => exact (below_size (by repeat first | (with_reducible first | exact HB.out | apply ba_ | apply bn_ | apply bd_) | exact HB.out))); (case aL => omega); intro v1 w1 ho hb hg hat); have n_ := am_ ho; have l_ := am_ (HL.out.app HD.out.size hat); have k_ := am_ (HD.out.grown hg HL.out hb (own_cur HO.out HD.out.cur (by decide))); clear HO HL HD HB; have HO := n_; have HL := l_; have HD := k_; have HB := am_ hb; clear n_ l_ k_ ho hb hg hat)
        go_wp2
        go_ret2
        exact ⟨_, _, _, rfl, (by (with_reducible repeat first | apply ra_ | apply rn_ | apply rd_); exact HO.out), by simp; omega, by omega, HD.out.more (by omega)⟩
      have q2 : (v == 2) = false := by simp [e2]
      have z2 : decide (v = 2) = false := decide_eq_false e2
      clear e2
      by_cases e3 : v = 3
      · have q3 : (v == 3) = true := by simp [e3]
        have z3 : decide (v = 3) = true := decide_eq_true e3
        clear e3
        go_wp2_with fail
        go_loopw [7] (fun v7 wr => ∃ (out : List S54), Aside0 (out.length ≤ 21) ∧ Aside0 (Kd.R k54 54 wr w.heap.size (fun _ => True) v7 out) ∧ Aside0 (Late wa v7) ∧ Aside0 (Dr w wa wr g code (B + 300 + out.length))) (fun v7 _ => 22 - lenOfC v7)
        case atStart => exact ⟨out, ⟨by omega⟩, ⟨(by (with_reducible repeat first | apply ra_ | apply rn_ | apply rd_); exact HO.out)⟩, HL, ⟨HD.out.more (by omega)⟩⟩
        case round =>
          clear HO HL HD HB hol2 HOL
          obtain ⟨out, HLN, HO, HL, HD⟩ := hrel
          have HB := am_ HD.out.below
          obtain ⟨A3, c3, e3⟩ := Kd.R_slice HO.out
          subst e3
          have hol := HLN.out
          go_wp2_with fail
          refine (pick_c 2 (by omega) g code _ w _ HD.out.cur HB.out (by omega)).mono ?_
          rintro e w3 ⟨k, rfl, ⟨k0, k1⟩, hd⟩
          have n_ := am_ (R_dr flat_Claim (by (with_reducible repeat first | apply ra_ | apply rn_ | apply rd_); exact HO.out) (Dr.cur (by repeat first | exact HD.out | apply Dr.alloc | apply Dr.drewN | apply Dr.drew)) (by decide) hd)
          clear HO
          have HO := n_
          clear n_
          have k_ := am_ (Dr.trans (by repeat first | exact HD.out | apply Dr.alloc | apply Dr.drewN | apply Dr.drew) hd)
          clear hd HD HB
          have HD := k_
          clear k_
          have HB := am_ HD.out.below
          have k2 := k1 (by decide)
          clear k1
          by_cases hp : (out.length : Int) < 20 + k
          · have d1 : decide ((out.length : Int) < 20 + k) = true := decide_eq_true hp
            go_wp2_with (((with_reducible refine gate_builtin (b := .append) (xs := #[.tmp 77, .tmp 79]) rfl ?_); at_builtin; refine Kd.R_append k54 (w0 := w) w.heap.size rfl (.tmp 77) (.tmp 79) 25 54 (.agg #[(.int .i64 0), (.int .i64 0), (.int .i64 0)]) 24 rfl Try.underlying25 infoCl rfl (by decide) (by omega) (.slice A3 out.length c3) out (⟨0, 1, 1⟩ : S54) [.int .i64 0, .int .i64 1, .int .i64 1] (fun _ => True) (fun _ => False) rfl rfl ?aP (fun _ hk => hk.elim) ?aF ?aO ?aB ?aS ?aL ?_; (case aP => exact k54_mkM _ _ _ _); (case aB => exact (by repeat first | (with_reducible first | exact HB.out | apply ba_ | apply bn_ | apply bd_) | exact HB.out)); (case aF => exact (fun _ _ => trivial)); (case aO => exact (by (with_reducible repeat first | apply ra_ | apply rn_ | apply rd_); exact HO.out)); (case aS => exact (below_size (by repeat first | (with_reducible first | exact HB.out | apply ba_ | apply bn_ | apply bd_) | exact HB.out))); (case aL => omega); intro v1 w1 ho hb hg hat); have n_ := am_ ho; have l_ := am_ (HL.out.app HD.out.size hat); have k_ := am_ (HD.out.grown hg HL.out hb (own_cur HO.out HD.out.cur (by decide))); clear HO HL HD HB; have HO := n_; have HL := l_; have HD := k_; have HB := am_ hb; clear n_ l_ k_ ho hb hg hat)
            obtain ⟨A4, c4, e4⟩ := Kd.R_slice HO.out
            go_roundw
            case rel => exact ⟨out ++ [⟨0, 1, 1⟩], ⟨by simp; omega⟩, ⟨(by (with_reducible repeat first | apply ra_ | apply rn_ | apply rd_); exact HO.out)⟩, HL, ⟨HD.out.more (by simp; omega)⟩⟩
            case measure => rw [e4]; simp [lenOfC]; omega
          · have d1 : decide ((out.length : Int) < 20 + k) = false := decide_eq_false hp
            go_wp2
            go_ret2
            exact ⟨_, _, _, rfl, (by (with_reducible repeat first | apply ra_ | apply rn_ | apply rd_); exact HO.out), by omega, by omega, HD.out.more (by omega)⟩
      have q3 : (v == 3) = false := by simp [e3]
      have z3 : decide (v = 3) = false := decide_eq_false e3
      clear e3
      go_wp2
      go_ret2
      exact ⟨_, _, _, rfl, (by (with_reducible repeat first | apply ra_ | apply rn_ | apply rd_); exact HO.out), by omega, by omega, HD.out.more (by omega)⟩
set_option maxHeartbeats 16000000 in
set_option maxRecDepth 100000 in
theorem balances_c (p : Int) (hp : p ≤ 9) (g : Nat) (code : List Int) (B : Int) (w wa : World) (hI : Cur w wa g code B) (hB : Below w.heap.size w wa) (hb : B ≤ 600000000000) :
    Calls Try.prog 71 #[.pointer (some ⟨g, 0, none⟩), .int .i64 p] wa fun e w' => ∃ v ys, e = .returned v ∧ (Kd.int .i64).R 3 w' w.heap.size (fun _ => True) v ys ∧ ys.length ≤ 10 ∧ Dr w wa w' g code (B + 100) := by
  have HD := am_ (Dr.refl hI hB (Int.le_refl B))
  have HB := am_ hB
  clear hI hB
  go_enter Try.func71, Try.ntmps71
  go_wp2_with (((with_reducible refine gate_dst (N := 7) rfl ?_); refine Kd.R_lit (Kd.int .i64) w.heap.size 3 (w0 := w) ?hg (N := 7) ?hd (xs := []) (inner := []) (ok := fun _ => True) (okp := fun _ => True) ?hr ?hp (fun _ hk => hk) trivial (by repeat first | (with_reducible first | exact HB.out | apply ba_ | apply bn_ | apply bd_) | exact HB.out) (below_size (by repeat first | (with_reducible first | exact HB.out | apply ba_ | apply bn_ | apply bd_) | exact HB.out)) (by simp) ?_; (case hd => rfl); (case hg => rfl); (case hr => first | (go_simp; done) | (go_simp; rfl)); (case hp => exact (Reps.none _ _)); intro v1 w1 ho hb hgr hnw); have HO := am_ ho; have HL := am_ (Late.lit HD.out.size hnw); have n_ := am_ (HD.out.lit hgr hb); clear HB HD; have HD := n_; have HB := am_ hb; clear n_ ho hb hgr hnw)
  go_loopw [5, 6] (fun v5 v6 wr => ∃ (i : Nat) (out : List Int), v6 = .int .i64 i ∧ Aside0 (i ≤ 9) ∧ Aside0 (out.length = i) ∧ Aside0 ((Kd.int .i64).R 3 wr w.heap.size (fun _ => True) v5 out) ∧ Aside0 (Late wa v5) ∧ Aside0 (Dr w wa wr g code (B + 5 * i))) (fun _ v6 _ => 10 - (intOf v6).toNat)
  case atStart => exact ⟨0, [], rfl, ⟨by decide⟩, ⟨rfl⟩, ⟨(by (with_reducible repeat first | apply ra_ | apply rn_ | apply rd_); exact HO.out)⟩, HL, ⟨HD.out.more (by omega)⟩⟩
  case round =>
    clear HO HL HD HB
    obtain ⟨i, out, rfl, HI, HLN, HO, HL, HD⟩ := hrel
    have HB := am_ HD.out.below
    have hi := HI.out
    have hol : out.length ≤ 9 := by have := HLN.out; omega
    by_cases hn : (i : Int) < p
    · have c1 : decide ((i : Int) < p) = true := decide_eq_true hn
      go_wp2_with fail
      refine (pick_c 40 (by decide) g code _ w _ (HD.out.alloc _).cur (ba_ HB.out _) (by omega)).mono ?_
      rintro e w3 ⟨v, rfl, ⟨v0, v1⟩, hd⟩
      have HBK := am_ (hd.2.2.blk (g' := wr.heap.size) (o := .cells (numsA [0, 0, 1, 5, 10, 200, 1000000000, -1]) 3 (0, 0)) (blk_new wr _) (Nat.ne_of_gt (Cur.lt HD.out.cur)) (by simp))
      have v2 := v1 (by decide)
      clear v1
      have n_ := am_ (R_dr flat_int (by (with_reducible repeat first | apply ra_ | apply rn_ | apply rd_); exact HO.out) (Dr.cur (by repeat first | exact HD.out | apply Dr.alloc | apply Dr.drewN | apply Dr.drew)) (by decide) hd)
      clear HO
      have HO := n_
      clear n_
      have k_ := am_ (Dr.trans (by repeat first | exact HD.out | apply Dr.alloc | apply Dr.drewN | apply Dr.drew) hd)
      clear hd HD HB
      have HD := k_
      clear k_
      have HB := am_ HD.out.below
      generalize wr.heap.size = b at HBK ⊢
      by_cases c0 : v < 39
      · have q1 : v.tdiv 39 = 0 := by rw [Int.tdiv_eq_ediv_of_nonneg v0]; omega
        have q2 : v / 39 = 0 := by omega
        go_wp2_with fail
        refine (among_c [0, 0, 1, 5, 10, 200, 1000000000, -1] b 7 8 (by decide) g code _ w _ HD.out.cur HB.out (by omega) HBK.out).mono ?_
        rintro e w4 ⟨x, rfl, _, hd⟩
        clear q1 q2 v0 v2
        have n_ := am_ (R_dr flat_int (by (with_reducible repeat first | apply ra_ | apply rn_ | apply rd_); exact HO.out) (Dr.cur (by repeat first | exact HD.out | apply Dr.alloc | apply Dr.drewN | apply Dr.drew)) (by decide) hd)
        clear HO
        have HO := n_
        clear n_
        have k_ := am_ (Dr.trans (by repeat first | exact HD.out | apply Dr.alloc | apply Dr.drewN | apply Dr.drew) hd)
        clear hd HD HB
        have HD := k_
        clear k_
        have HB := am_ HD.out.below
        clear HBK
        go_wp2_with (((with_reducible refine gate_builtin (b := .append) (xs := #[.tmp 13, .tmp 22]) rfl ?_); at_builtin; refine Kd.R_append (Kd.int .i64) (w0 := w) w.heap.size rfl (.tmp 13) (.tmp 22) 31 3 (.int .i64 0) 8 rfl Try.underlying31 infoI rfl (by decide) (by omega) u5 out x [.int .i64 x] (fun _ => True) (fun _ => False) rfl rfl ?aP (fun _ hk => hk.elim) ?aF ?aO ?aB ?aS ?aL ?_; (case aP => exact rfl); (case aB => exact (by repeat first | (with_reducible first | exact HB.out | apply ba_ | apply bn_ | apply bd_) | exact HB.out)); (case aF => exact (fun _ _ => trivial)); (case aO => exact (by (with_reducible repeat first | apply ra_ | apply rn_ | apply rd_); exact HO.out)); (case aS => exact (below_size (by repeat first | (with_reducible first | exact HB.out | apply ba_ | apply bn_ | apply bd_) | exact HB.out))); (case aL => omega); intro v1 w1 ho hb hg hat); have n_ := am_ ho; have l_ := am_ (HL.out.app HD.out.size hat); have k_ := am_ (HD.out.grown hg HL.out hb (own_cur HO.out HD.out.cur (by decide))); clear HO HL HD HB; have HO := n_; have HL := l_; have HD := k_; have HB := am_ hb; clear n_ l_ k_ ho hb hg hat)
        go_roundw
        case rel => exact ⟨i + 1, out ++ [x], by go_num, ⟨by omega⟩, ⟨by have := HLN.out; simp; omega⟩, ⟨(by (with_reducible repeat first | apply ra_ | apply rn_ | apply rd_); exact HO.out)⟩, HL, ⟨HD.out.more (by omega)⟩⟩
        case measure => simp [intOf]; omega
      · have q1 : v.tdiv 39 = 1 := by rw [Int.tdiv_eq_ediv_of_nonneg v0]; omega
        have q2 : v / 39 = 1 := by omega
        go_wp2_with fail
        refine (among_c [0, 0, 1, 5, 10, 200, 1000000000, -1] b 8 8 (by decide) g code _ w _ HD.out.cur HB.out (by omega) HBK.out).mono ?_
        rintro e w4 ⟨x, rfl, _, hd⟩
        clear q1 q2 v0 v2
        have n_ := am_ (R_dr flat_int (by (with_reducible repeat first | apply ra_ | apply rn_ | apply rd_); exact HO.out) (Dr.cur (by repeat first | exact HD.out | apply Dr.alloc | apply Dr.drewN | apply Dr.drew)) (by decide) hd)
        clear HO
        have HO := n_
        clear n_
        have k_ := am_ (Dr.trans (by repeat first | exact HD.out | apply Dr.alloc | apply Dr.drewN | apply Dr.drew) hd)
        clear hd HD HB
        have HD := k_
        clear k_
        have HB := am_ HD.out.below
        clear HBK
        go_wp2_with (((with_reducible refine gate_builtin (b := .append) (xs := #[.tmp 13, .tmp 22]) rfl ?_); at_builtin; refine Kd.R_append (Kd.int .i64) (w0 := w) w.heap.size rfl (.tmp 13) (.tmp 22) 31 3 (.int .i64 0) 8 rfl Try.underlying31 infoI rfl (by decide) (by omega) u5 out x [.int .i64 x] (fun _ => True) (fun _ => False) rfl rfl ?aP (fun _ hk => hk.elim) ?aF ?aO ?aB ?aS ?aL ?_; (case aP => exact rfl); (case aB => exact (by repeat first | (with_reducible first | exact HB.out | apply ba_ | apply bn_ | apply bd_) | exact HB.out)); (case aF => exact (fun _ _ => trivial)); (case aO => exact (by (with_reducible repeat first | apply ra_ | apply rn_ | apply rd_); exact HO.out)); (case aS => exact (below_size (by repeat first | (with_reducible first | exact HB.out | apply ba_ | apply bn_ | apply bd_) | exact HB.out))); (case aL => omega); intro v1 w1 ho hb hg hat); have n_ := am_ ho; have l_ := am_ (HL.out.app HD.out.size hat); have k_ := am_ (HD.out.grown hg HL.out hb (own_cur HO.out HD.out.cur (by decide))); clear HO HL HD HB; have HO := n_; have HL := l_; have HD := k_; have HB := am_ hb; clear n_ l_ k_ ho hb hg hat)
        go_roundw
        case rel => exact ⟨i + 1, out ++ [x], by go_num, ⟨by omega⟩, ⟨by have := HLN.out; simp; omega⟩, ⟨(by (with_reducible repeat first | apply ra_ | apply rn_ | apply rd_); exact HO.out)⟩, HL, ⟨HD.out.more (by omega)⟩⟩
        case measure => simp [intOf]; omega
    · have c1 : decide ((i : Int) < p) = false := decide_eq_false hn
      clear hn
      go_wp2_with fail
      refine (one_c 24 (by decide) g code _ w _ HD.out.cur HB.out (by omega)).mono ?_
      rintro e w5 ⟨b2, rfl, hd⟩
      have n_ := am_ (R_dr flat_int (by (with_reducible repeat first | apply ra_ | apply rn_ | apply rd_); exact HO.out) (Dr.cur (by repeat first | exact HD.out | apply Dr.alloc | apply Dr.drewN | apply Dr.drew)) (by decide) hd)
      clear HO
      have HO := n_
      clear n_
      have k_ := am_ (Dr.trans (by repeat first | exact HD.out | apply Dr.alloc | apply Dr.drewN | apply Dr.drew) hd)
      clear hd HD HB
      have HD := k_
      clear k_
      have HB := am_ HD.out.below
      cases b2 with
      | false =>
        go_wp2
        go_ret
        exact ⟨_, out, rfl, (by (with_reducible repeat first | apply ra_ | apply rn_ | apply rd_); exact HO.out), by omega, HD.out.more (by omega)⟩
      | true =>
        go_wp2_with (((with_reducible refine gate_builtin (b := .append) (xs := #[.tmp 26, .tmp 27]) rfl ?_); at_builtin; refine Kd.R_append (Kd.int .i64) (w0 := w) w.heap.size rfl (.tmp 26) (.tmp 27) 31 3 (.int .i64 0) 8 rfl Try.underlying31 infoI rfl (by decide) (by omega) u5 out 0 [.int .i64 0] (fun _ => True) (fun _ => False) rfl rfl ?aP (fun _ hk => hk.elim) ?aF ?aO ?aB ?aS ?aL ?_; (case aP => exact rfl); (case aB => exact (by repeat first | (with_reducible first | exact HB.out | apply ba_ | apply bn_ | apply bd_) | exact HB.out)); (case aF => exact (fun _ _ => trivial)); (case aO => exact (by (with_reducible repeat first | apply ra_ | apply rn_ | apply rd_); exact HO.out)); (case aS => exact (below_size (by repeat first | (with_reducible first | exact HB.out | apply ba_ | apply bn_ | apply bd_) | exact HB.out))); (case aL => omega); intro v1 w1 ho hb hg hat); have n_ := am_ ho; have l_ := am_ (HL.out.app HD.out.size hat); have k_ := am_ (HD.out.grown hg HL.out hb (own_cur HO.out HD.out.cur (by decide))); clear HO HL HD HB; have HO := n_; have HL := l_; have HD := k_; have HB := am_ hb; clear n_ l_ k_ ho hb hg hat)
        go_ret
        exact ⟨_, out ++ [0], rfl, (by (with_reducible repeat first | apply ra_ | apply rn_ | apply rd_); exact HO.out), by simp; omega, HD.out.more (by omega)⟩
set_option maxHeartbeats 16000000 in
set_option maxRecDepth 100000 in
theorem drawSet_c (A : Option Addr) (c : Nat) (code : List Int) (w : World) (hr : (Kd.int .u8).C w A code.length code) (hx : ∀ x ∈ code, 0 ≤ x ∧ x ≤ 255) :
    Calls Try.prog 42 #[.slice A code.length c] w fun e w' => ∃ v p u xs ys, e = .returned (.tuple #[v, .int .i64 p, u]) ∧ Kd.R k54 54 w' w.heap.size (fun _ => True) v xs ∧ xs.length ≤ 100 ∧ (1 ≤ p ∧ p ≤ 9) ∧ (Kd.int .i64).R 3 w' w.heap.size (fun _ => True) u ys ∧ ys.length ≤ 10 ∧ Below w.heap.size w w' := by
  have HC := am_ (fun hb => Cur.new (w0 := w) (w := w) (c := c) hb hr hx)
  clear hr hx
  go_enter Try.func42, Try.ntmps42
  go_upto_region 2 with (fail)
  have HC1 := am_ (HC.out (Below.refl _ _))
  have HB1 := am_ (ba_ (Below.refl w.heap.size w) (.cells #[.slice A code.length c, .int .i64 0, .int .u64 0] 74))
  have HK1 := am_ (keep_alloc (KeepBut.refl w w.heap.size none) (.cells #[.slice A code.length c, .int .i64 0, .int .u64 0] 74))
  clear HC
  obtain ⟨wa, hwa⟩ : ∃ W, W = w.alloc (.cells #[.slice A code.length c, .int .i64 0, .int .u64 0] 74) := ⟨_, rfl⟩
  rw [← hwa] at HC1 HB1 HK1 ⊢
  clear hwa
  generalize w.heap.size = g at HC1 HK1 ⊢
  have HD := am_ (show Dr w w wa g code 0 from ⟨HC1.out, HB1.out, HK1.out⟩)
  have HB := HB1
  clear HC1 HK1 HB1
  go_wp2_with fail
  refine (claims_c 8 (by decide) g code _ w _ HD.out.cur HB.out (by omega)).mono ?_
  rintro e w2 ⟨v, p, xs, rfl, ho, hl, hp, hd⟩
  have HO := am_ ho
  have HXL := am_ hl
  have HP := am_ hp
  clear ho hl hp
  have k_ := am_ (Dr.trans (by repeat first | exact HD.out | apply Dr.alloc | apply Dr.drewN | apply Dr.drew) hd)
  clear hd HD HB
  have HD := k_
  clear k_
  have HB := am_ HD.out.below
  have hp2 := HP.out.2
  go_wp2_with fail
  refine (balances_c p hp2 g code _ w _ HD.out.cur HB.out (by omega)).mono ?_
  rintro e w3 ⟨u, ys, rfl, hy, hyl, hd⟩
  have HY := am_ hy
  have HYL := am_ hyl
  clear hy hyl hp2
  have n_ := am_ (R_dr flat_Claim (by (with_reducible repeat first | apply ra_ | apply rn_ | apply rd_); exact HO.out) (Dr.cur (by repeat first | exact HD.out | apply Dr.alloc | apply Dr.drewN | apply Dr.drew)) (by decide) hd)
  clear HO
  have HO := n_
  clear n_
  have k_ := am_ (Dr.trans (by repeat first | exact HD.out | apply Dr.alloc | apply Dr.drewN | apply Dr.drew) hd)
  clear hd HD HB
  have HD := k_
  clear k_
  have HB := am_ HD.out.below
  go_wp2
  go_ret3
  exact ⟨_, p, _, xs, ys, rfl, (by (with_reducible repeat first | apply ra_ | apply rn_ | apply rd_); exact HO.out), HXL.out, HP.out, (by (with_reducible repeat first | apply ra_ | apply rn_ | apply rd_); exact HY.out), HYL.out, (by repeat first | (with_reducible first | exact HB.out | apply ba_ | apply bn_ | apply bd_) | exact HB.out)⟩
def Lcl_ren : Go.Shelf.Ren := ⟨fun | 15 => 64 | n => n, fun | 3 => 3 | 4 => 4 | 22 => 31 | n => n, fun | n => n⟩
theorem Lcl : Go.Proofs.Lays2.n15 Try.prog Lcl_ren := {
  mixed := by kernel_rfl,
  f15 := Try.func64.trans (congrArg some (by kernel_rfl)),
  t3 := Try.underlying3,
  a3 := Try.isAgg3,
  z3 := Try.sizeOf3,
  v3 := Try.zeroValue3,
  t4 := Try.underlying4,
  a4 := Try.isAgg4,
  z4 := Try.sizeOf4,
  v4 := Try.zeroValue4,
  t22 := Try.underlying31,
  a22 := Try.isAgg31,
  z22 := Try.sizeOf31,
  v22 := Try.zeroValue31,
  i3 := by kernel_rfl }

/-- slices.Clone of whole numbers, not empty. -/
theorem cloneInt_c (b c : Nat) (xs : List Int) (w : World) (hr : (Kd.int .i64).C w (some ⟨b, 0, none⟩) xs.length xs) (hl : xs.length ≤ 1048576) :
    Calls Try.prog 64 #[.slice (some ⟨b, 0, none⟩) xs.length c] w fun e w' => ∃ v, e = .returned v ∧ (Kd.int .i64).R 3 w' w.heap.size (fun _ => True) v xs ∧ Below w.heap.size w w' :=
  (Any.slices_Clone_int Lcl b 0 xs.length c xs w (Nat.le_refl _) (by omega) (cellsOfD hr)).mono fun e w' ⟨v, he, ho, _, hb⟩ => ⟨v, he, Kd.R_of_own (by rw [List.take_length] at ho; exact ho) (fun _ _ => trivial), hb⟩
def Lcf_ren : Go.Shelf.Ren := ⟨fun | 6 => 80 | 8 => 73 | n => n, fun | 22 => 31 | 23 => 3 | 25 => 58 | n => n, fun | n => n⟩
theorem Lcf : Go.Proofs.SlLaysH.n8 Try.prog Lcf_ren := {
  mixed := by kernel_rfl,
  f6 := ⟨Try.f80.name, by decide, Try.func80.trans (congrArg some (by kernel_rfl))⟩,
  f8 := ⟨Try.f73.name, by decide, Try.func73.trans (congrArg some (by kernel_rfl))⟩,
  t0 := Try.underlying0,
  a0 := Try.isAgg0,
  z0 := Try.sizeOf0,
  v0 := Try.zeroValue0,
  t3 := Try.underlying3,
  a3 := Try.isAgg3,
  z3 := Try.sizeOf3,
  v3 := Try.zeroValue3,
  t4 := Try.underlying4,
  a4 := Try.isAgg4,
  z4 := Try.sizeOf4,
  v4 := Try.zeroValue4,
  t22 := Try.underlying31,
  a22 := Try.isAgg31,
  z22 := Try.sizeOf31,
  v22 := Try.zeroValue31,
  a23 := Try.isAgg3,
  z23 := Try.sizeOf3,
  t25 := Try.underlying58,
  a25 := Try.isAgg58,
  z25 := Try.sizeOf58,
  v25 := Try.zeroValue58 }

/-- slices.ContainsFunc over a row of whole numbers, a predicate given. -/
theorem containsFunc_c (g : Nat) (eg : ∀ args w, (callFunc g args).run Try.prog w = .ok (.enter g args) w) (lb : Array Value) (p : Int → Bool) (A : Option Addr) (c : Nat) (xs : List Int) (w : World) (hp : PredAt Try.prog g lb (Value.int .i64) p w) (hr : (Kd.int .i64).C w A xs.length xs) (ha : 0 < xs.length → ∃ b, A = some ⟨b, 0, none⟩) :
    Calls Try.prog 73 #[.slice A xs.length c, .func (.func g) #[] lb] w fun e w' => e = .returned (.bool (xs.any p)) ∧ ∃ q, w' = w.drewN q := by
  by_cases hp0 : 0 < xs.length
  · obtain ⟨b, rfl⟩ := ha hp0
    have h := AnyE.slices_ContainsFunc Lcf (Value.int .i64) p g lb eg b 0 xs.length c xs w hp (Nat.le_refl _) (Kd.C_max hr) (cellsOf hr)
    rw [List.take_length] at h
    exact h
  · obtain rfl : xs = [] := List.length_eq_zero_iff.mp (by omega)
    exact (AnyE.slices_ContainsFunc_empty Lcf A c _ w).mono fun e w' ⟨he, hw⟩ => ⟨he, 0, hw⟩
def okB (x : Int) : Bool := decide (0 ≤ x ∧ x ≤ 1000000000)
theorem balPred (w : World) : PredAt Try.prog 74 #[] (Value.int .i64) (fun x => !okB x) w := fun W x _ => by
  unfold FnGives
  have h : impl_within.f x 0 1000000000 = some (okB x) := by rw [within_eq]; rfl
  go_enter Try.func74, Try.ntmps74
  go_wp2_with (go_at_call 46; refine (impl_within.calls x 0 1000000000 _ _ h).mono ?_; rintro e w' ⟨rfl, ⟨n, rfl⟩⟩)
  go_ret
  exact ⟨rfl, n, rfl⟩
theorem goodB_any {bal : List Int} {p : Int} (h : (bal.length : Int) = p) : goodB bal p = !(bal.any (fun x => !okB x)) := by
  unfold goodB
  cases hq : bal.any (fun x => !okB x) with
  | true =>
    obtain ⟨x, hx, hx2⟩ := List.any_eq_true.mp hq
    refine decide_eq_false (fun g => ?_)
    have : okB x = true := decide_eq_true (g.2 x hx)
    rw [this] at hx2; cases hx2
  | false =>
    refine decide_eq_true ⟨h, fun x hx => ?_⟩
    have h1 := List.any_eq_false.mp hq x hx
    have h2 : okB x = true := by simpa using h1
    exact of_decide_eq_true h2
set_option maxHeartbeats 8000000 in
set_option maxRecDepth 100000 in
theorem areBal_c (A0 : Option Addr) (c0 : Nat) (xs : List S54) (p : Int) (A2 : Option Addr) (c2 : Nat) (bal : List Int) (w : World) (hr0 : Kd.C k54 w A0 xs.length xs) (hc0 : xs.length ≤ c0) (hr2 : (Kd.int .i64).C w A2 bal.length bal) (ha2 : 0 < bal.length → ∃ b, A2 = some ⟨b, 0, none⟩) (hn : xs.length ≤ 1048576) (hm : bal.length ≤ 1048576) :
    Calls Try.prog 63 #[.slice A0 xs.length c0, .int .i64 p, .slice A2 bal.length c2] w fun e w' => e = .returned (.bool (goodC xs p && goodB bal p)) ∧ Below w.heap.size w w' := by
  obtain ⟨kv, hv⟩ := roundsOf (implValidC_ev xs p hn)
  have EG := am_ (show ∀ args w, (callFunc 74 args).run Try.prog w = .ok (.enter 74 args) w from enters_of Try.func74 (by kernel_rfl) rfl)
  have HR0 := am_ hr0
  have HC0 := am_ hc0
  have HR2 := am_ hr2
  have HA2 := am_ ha2
  by_cases g : goodC xs p = true
  · rw [g] at hv
    have HV := am_ hv
    have HG := am_ g
    by_cases hl : (bal.length : Int) = p
    · have hq := goodB_any hl
      obtain ⟨q, hqe⟩ : ∃ q, q = bal.any (fun x => !okB x) := ⟨_, rfl⟩
      rw [← hqe] at hq
      have HQ := am_ hqe
      have HGB := am_ hq
      have cl : ((bal.length : Int) == p) = true := by rw [beq_iff_eq]; exact hl
      clear hv hr0 hc0 hr2 ha2 g hq hqe hn hl
      cases q with
      | true =>
        go_enter Try.func63, Try.ntmps63
        go_wp2_with (first
          | (go_at_call 16; refine (impl_IsValidClaims.calls kv _ _ xs _ true _ HR0.out HC0.out HV.out).mono ?_; rintro e w1 ⟨rfl, hb⟩; have HB := am_ hb; clear hb)
          | (go_at_call 73; refine (containsFunc_c 74 EG.out #[] (fun x => !okB x) _ _ bal _ (balPred _) (Kd.C_below HR2.out HB.out) HA2.out).mono ?_; rw [← HQ.out]; rintro e w2 ⟨rfl, ⟨q, rfl⟩⟩))
        go_ret
        rw [HG.out, HGB.out]
        exact ⟨rfl, (by repeat first | (with_reducible first | exact HB.out | apply ba_ | apply bn_ | apply bd_) | exact HB.out)⟩
      | false =>
        go_enter Try.func63, Try.ntmps63
        go_wp2_with (first
          | (go_at_call 16; refine (impl_IsValidClaims.calls kv _ _ xs _ true _ HR0.out HC0.out HV.out).mono ?_; rintro e w1 ⟨rfl, hb⟩; have HB := am_ hb; clear hb)
          | (go_at_call 73; refine (containsFunc_c 74 EG.out #[] (fun x => !okB x) _ _ bal _ (balPred _) (Kd.C_below HR2.out HB.out) HA2.out).mono ?_; rw [← HQ.out]; rintro e w2 ⟨rfl, ⟨q, rfl⟩⟩))
        go_ret
        rw [HG.out, HGB.out]
        exact ⟨rfl, (by repeat first | (with_reducible first | exact HB.out | apply ba_ | apply bn_ | apply bd_) | exact HB.out)⟩
    · have hgb : goodB bal p = false := decide_eq_false (fun q => hl q.1)
      have HGB := am_ hgb
      have cl : ((bal.length : Int) == p) = false := by rw [beq_eq_false_iff_ne]; exact hl
      clear hv hr0 hc0 hr2 ha2 g hn hl hgb
      go_enter Try.func63, Try.ntmps63
      go_wp2_with (go_at_call 16; refine (impl_IsValidClaims.calls kv _ _ xs _ true _ HR0.out HC0.out HV.out).mono ?_; rintro e w1 ⟨rfl, hb⟩; have HB := am_ hb; clear hb)
      go_ret
      rw [HG.out, HGB.out]
      exact ⟨rfl, HB.out⟩
  · have g' : goodC xs p = false := by simpa using g
    rw [g'] at hv
    have HV := am_ hv
    have HG := am_ g'
    clear hv hr0 hc0 hr2 ha2 g g' hn
    go_enter Try.func63, Try.ntmps63
    go_wp2_with (go_at_call 16; refine (impl_IsValidClaims.calls kv _ _ xs _ false _ HR0.out HC0.out HV.out).mono ?_; rintro e w1 ⟨rfl, hb⟩; have HB := am_ hb; clear hb)
    go_ret
    rw [HG.out]
    exact ⟨rfl, HB.out⟩
theorem R_ownlt {α : Type} {d : Kd α} {e base : Nat} {ok : Nat → Prop} {w : World} {v : Value} {xs : List α} (h : d.R e w base ok v xs) {k : Nat} (hk : v.ownBlock = some k) : base ≤ k ∧ k < w.heap.size := by
  obtain ⟨inner, ho⟩ := Kd.R_own h
  exact ⟨own_base ho k hk, own_lt ho k hk⟩
/-- A store into another block than the row's own. -/
theorem R_offset {base : Nat} {w : World} {v : Value} {xs : List Int} (h : (Kd.int .i64).R 3 w base (fun _ => True) v xs) {g : Nat} (hd : ∀ k, v.ownBlock = some k → k ≠ g) (j : Nat) (u : Value) : (Kd.int .i64).R 3 (w.setCell ⟨g, j, none⟩ u) base (fun _ => True) v xs :=
  Kd.R_mono (Kd.R_far (p := ⟨g, j, none⟩) (R_flat flat_int h hd) (fun k hk => hk) u) (fun _ _ => trivial)
/-- Another row was appended to. -/
theorem R_offrow {base : Nat} {w w1 : World} {u v : Value} {xs : List Int} (h : (Kd.int .i64).R 3 w base (fun _ => True) u xs) (hg : w.grownBy w1 v.ownBlock) (hd : ∀ k, u.ownBlock = some k → v.ownBlock ≠ some k) : (Kd.int .i64).R 3 w1 base (fun _ => True) u xs :=
  Kd.R_mono (Kd.R_grown (R_flat flat_int h (fun k hk => hd k hk)) hg (fun k hk e => hk e.symm)) (fun _ _ => trivial)
theorem off_app {w : World} {v v1 : Value} {g : Nat} (hd : ∀ k, v.ownBlock = some k → k ≠ g) (hg : g < w.heap.size) (hat : v1.ownBlock = v.ownBlock ∨ ∃ b, v1.ownBlock = some b ∧ w.heap.size ≤ b) : ∀ k, v1.ownBlock = some k → k ≠ g := by
  intro k hk
  rcases hat with e | ⟨b, e, hb⟩
  · exact hd k (e ▸ hk)
  · rw [e] at hk
    injection hk with hk
    omega
def IvP (a b : Nat) (o : Option Nat) (k : Nat) : Prop := Iv a b k ∧ o = some k
theorem R_ivp {base a b : Nat} {ok : Nat → Prop} {w : World} {v : Value} {xs : List Int} (h : (Kd.int .i64).R 3 w base ok v xs) (ha : a ≤ base) (hb : b ≤ base) : (Kd.int .i64).R 3 w b (IvP a w.heap.size v.ownBlock) v xs :=
  R_flat flat_int (R_ivw h ha hb) (fun k hk => ⟨(R_ivw h ha hb).1 k hk, hk⟩)
set_option maxHeartbeats 8000000 in
set_option maxRecDepth 100000 in
theorem ordS_c (A0 : Option Addr) (c0 : Nat) (xs : List S54) (p : Int) (A2 : Option Addr) (c2 : Nat) (bal : List Int) (w : World) (hr0 : Kd.C k54 w A0 xs.length xs) (hc0 : xs.length ≤ c0) (ha0 : 0 < xs.length → ∃ b, A0 = some ⟨b, 0, none⟩) (hn : xs.length ≤ 1048576) (hr2 : (Kd.int .i64).C w A2 bal.length bal) (hc2 : bal.length ≤ c2) (ha2 : 0 < bal.length → ∃ b, A2 = some ⟨b, 0, none⟩) (hm : bal.length ≤ 1048576) :
    Calls Try.prog 31 #[.slice A0 xs.length c0, .int .i64 p, .slice A2 bal.length c2] w fun e w' => ∃ v1 v2, e = .returned (.tuple #[v1, v2, .bool (setA xs p bal).2.2]) ∧ (Kd.int .i64).R 3 w' w.heap.size (fun _ => True) v1 (setA xs p bal).1 ∧ (Kd.int .i64).R 3 w' w.heap.size (fun _ => True) v2 (setA xs p bal).2.1 ∧ (∀ k, v1.ownBlock = some k → v2.ownBlock ≠ some k) ∧ Below w.heap.size w w' := by
  obtain ⟨kv, hv⟩ := roundsOf (specGoodC_ev xs p hn)
  obtain ⟨kb, hvb⟩ := roundsOf (specBal_ev bal p hm)
  obtain ⟨gc, hgc⟩ : ∃ q, q = goodC xs p := ⟨_, rfl⟩
  obtain ⟨gb, hgb⟩ : ∃ q, q = goodB bal p := ⟨_, rfl⟩
  rw [← hgc] at hv
  rw [← hgb] at hvb
  have HV := am_ hv
  have HVB := am_ hvb
  have HR0 := am_ hr0
  have HC0 := am_ hc0
  have HR2 := am_ hr2
  have HC2 := am_ hc2
  by_cases g : gc = true ∧ gb = true
  · obtain ⟨rfl, rfl⟩ := g
    have gg := of_decide_eq_true hgc.symm
    have gg2 := of_decide_eq_true hgb.symm
    obtain ⟨⟨p1, p2⟩, hx20, hok, hsum⟩ := gg
    obtain ⟨m, rfl⟩ := Int.eq_ofNat_of_zero_le (show 0 ≤ p from by omega)
    have hbl : bal.length = m := by have := gg2.1; omega
    have hfin : setA xs m bal = settleK xs (xs.length + 1) [] bal := by unfold setA; rw [if_pos ⟨hgc.symm, hgb.symm⟩]
    obtain ⟨bb, rfl⟩ := ha2 (by omega)
    have HBL := am_ hbl
    rw [hfin]
    obtain ⟨FIN, hFIN⟩ : ∃ F, F = settleK xs (xs.length + 1) [] bal := ⟨_, rfl⟩
    rw [← hFIN]
    have HF := am_ hFIN.symm
    have HOK := am_ hok
    have HBD := am_ gg2.2
    have HX20 := am_ hx20
    have m1 : 2 ≤ m := by omega
    have m2 : m ≤ 8 := by omega
    clear hv hvb hr0 hc0 hr2 hc2 hok hx20 hfin hsum ha0 p1 p2 gg2 hFIN ha2 hgc hgb hbl
    go_enter Try.func31, Try.ntmps31
    go_wp2_with ((with_reducible refine gate_dst (N := 14) rfl ?_); refine Kd.R_lit (Kd.int .i64) w.heap.size 3 (w0 := w) ?hg (N := 14) ?hd (xs := []) (inner := []) (ok := fun _ => True) (okp := fun _ => True) ?hr ?hp (fun _ hk => hk) trivial (by repeat first | (with_reducible first | exact (Below.refl w.heap.size w) | apply ba_ | apply bn_ | apply bd_) | exact (Below.refl w.heap.size w)) (below_size (by repeat first | (with_reducible first | exact (Below.refl w.heap.size w) | apply ba_ | apply bn_ | apply bd_) | exact (Below.refl w.heap.size w))) (by simp) ?_; (case hd => rfl); (case hg => rfl); (case hr => first | (go_simp; done) | (go_simp; rfl)); (case hp => exact (Reps.none _ _)); intro v1 w1 ho hb hgr hnw)
    have HOUT := am_ ho
    have HB := am_ hb
    clear ho hb hgr hnw
    refine (spec_l16Good.calls kv _ _ xs _ true _ (by repeat first | exact (Kd.C_below HR0.out HB.out) | with_reducible refine ca_ ?_ _ | with_reducible refine cn_ ?_ _ | with_reducible refine cd_ ?_) HC0.out HV.out).mono ?_
    rintro e w2 ⟨rfl, hb⟩
    replace HOUT := am_ (Kd.R_below (by (with_reducible repeat first | apply ra_ | apply rn_ | apply rd_); exact HOUT.out) hb); replace HB := am_ (below_step (by repeat first | (with_reducible first | exact HB.out | apply ba_ | apply bn_ | apply bd_) | exact HB.out) hb); clear hb
    go_wp2_with fail
    refine (spec_l16Balances.calls kb _ _ bal _ true _ (by repeat first | exact (Kd.C_below HR2.out HB.out) | with_reducible refine ca_ ?_ _ | with_reducible refine cn_ ?_ _ | with_reducible refine cd_ ?_) HC2.out HVB.out).mono ?_
    rintro e w3 ⟨rfl, hb0⟩
    have hb := db_ hb0
    replace HOUT := am_ (Kd.R_below (by (with_reducible repeat first | apply ra_ | apply rn_ | apply rd_); exact HOUT.out) hb); replace HB := am_ (below_step (by repeat first | (with_reducible first | exact HB.out | apply ba_ | apply bn_ | apply bd_) | exact HB.out) hb); clear hb
    clear hb0
    go_wp2_with fail
    refine (spec_l1Own.calls _ _ bal bal _ (by repeat first | exact (Kd.C_below HR2.out HB.out) | with_reducible refine ca_ ?_ _ | with_reducible refine cn_ ?_ _ | with_reducible refine cd_ ?_) HC2.out (own_eq bal hm)).mono ?_
    rintro e w4 ⟨v10, rfl, ho, hb⟩
    obtain ⟨g, cap, hv10, hg1, hg2, cells, hg3⟩ := Kd.R_form ho (by have := HBL.out; omega)
    rw [HBL.out] at hv10
    subst hv10
    have HO := am_ (Kd.R_lower ho (show w.heap.size ≤ _ from below_size HB.out))
    have HD := am_ (show ∀ k, v1.ownBlock = some k → k ≠ g from fun k hk => by have := (R_ownlt HOUT.out hk).2; have := hg1; omega)
    replace hg1 : w.heap.size ≤ g := Nat.le_trans (below_size HB.out) hg1
    replace HOUT := am_ (Kd.R_below (by (with_reducible repeat first | apply ra_ | apply rn_ | apply rd_); exact HOUT.out) hb); replace HB := am_ (below_step (by repeat first | (with_reducible first | exact HB.out | apply ba_ | apply bn_ | apply bd_) | exact HB.out) hb); clear hb
    clear ho hg2 hg3 cells
    go_wp2_with fail
    go_loopg [9, 11] (xs.length + 1) (fun kq vo v11 wr => ∃ (out b : List Int) (more : Bool), v11 = .bool more ∧ Aside0 (more = true → settleK xs kq out b = FIN ∧ miss xs.length out < kq) ∧ Aside0 (more = false → (out, b, true) = FIN) ∧ Aside0 (out.length + miss xs.length out = xs.length) ∧ Aside0 (b.length = m) ∧ Aside0 (∀ x ∈ b, 0 ≤ x ∧ x ≤ 1000000000) ∧ Aside0 (∀ k, vo.ownBlock = some k → k ≠ g) ∧ Aside0 ((Kd.int .i64).R 3 wr w.heap.size (fun _ => True) (.slice (some ⟨g, 0, none⟩) m cap) b) ∧ Aside0 ((Kd.int .i64).R 3 wr w.heap.size (fun _ => True) vo out) ∧ Aside0 (Below w.heap.size w wr))
    case atStart => exact ⟨[], bal, true, rfl, ⟨fun _ => ⟨HF.out, by rw [miss_nil]; omega⟩⟩, ⟨fun h => by cases h⟩, ⟨by rw [miss_nil]; simp⟩, HBL, HBD, HD, HO, HOUT, HB⟩
    case round =>
      clear HO HOUT HB HD
      obtain ⟨out, b, more, rfl, HMT, HMF, HLM, HL, HBD1, HD, HO, HOUT, HB⟩ := hrel
      cases more with
      | false =>
        go_wp2
        go_ret3
        rw [← HMF.out (by trivial)]
        exact ⟨_, _, rfl, (by (with_reducible repeat first | apply ra_ | apply rn_ | apply rd_); exact HOUT.out), (by (with_reducible repeat first | apply ra_ | apply rn_ | apply rd_); exact HO.out), fun k hk e => HD.out k hk (by injection e with e; exact e.symm), (by repeat first | (with_reducible first | exact HB.out | apply ba_ | apply bn_ | apply bd_) | exact HB.out)⟩
      | true =>
        obtain ⟨hset, hms⟩ := HMT.out (by trivial)
        obtain ⟨k1, rfl⟩ : ∃ k1, gk = k1 + 1 := ⟨gk - 1, by omega⟩
        obtain ⟨PASS, hP⟩ : ∃ P, P = passS xs 0 out b false := ⟨_, rfl⟩
        obtain ⟨ms, hmse⟩ : ∃ q, q = miss xs.length out := ⟨_, rfl⟩
        rw [← hmse] at hms
        have HMS := am_ (show ms ≤ k1 from by omega)
        have HPN := am_ (show PASS = none → FIN = ([], [], false) from fun h => by rw [← hset]; exact settleK_none (hP.symm.trans h))
        have HPM := am_ (show ∀ o b, some (o, b, true) = PASS → settleK xs k1 o b = FIN from fun o b h => by rw [← hset]; exact (settleK_more (hP.symm.trans h.symm)).symm)
        have HPD := am_ (show ∀ o b, some (o, b, false) = PASS → (o, b, true) = FIN from fun o b h => by rw [← hset]; exact (settleK_done (hP.symm.trans h.symm)).symm)
        have HP0 := am_ hP.symm
        have MSLE := Nat.le_of_eq hmse.symm
        clear hset hms hP hmse HMT HMF
        go_wp2
        go_loopw [9, 11, 12] (fun vo v11 vi wr => ∃ (pre rest : List S54) (out2 b2 : List Int) (more : Bool), Aside0 (xs = pre ++ rest) ∧ vi = .int .i64 pre.length ∧ v11 = .bool more ∧ Aside0 (passS rest pre.length out2 b2 more = PASS) ∧ Aside0 (more = true → miss xs.length out2 < ms) ∧ Aside0 (miss xs.length out2 ≤ ms) ∧ Aside0 (out2.length + miss xs.length out2 = xs.length) ∧ Aside0 (b2.length = m) ∧ Aside0 (∀ x ∈ b2, 0 ≤ x ∧ x ≤ 1000000000) ∧ Aside0 (∀ k, vo.ownBlock = some k → k ≠ g) ∧ Aside0 ((Kd.int .i64).R 3 wr w.heap.size (fun _ => True) (.slice (some ⟨g, 0, none⟩) m cap) b2) ∧ Aside0 ((Kd.int .i64).R 3 wr w.heap.size (fun _ => True) vo out2) ∧ Aside0 (Below w.heap.size w wr)) (fun _ _ vi _ => xs.length - (intOf vi).toNat)
        case atStart => exact ⟨[], xs, out, b, false, ⟨rfl⟩, rfl, rfl, HP0, ⟨fun h => by cases h⟩, ⟨MSLE⟩, HLM, HL, HBD1, HD, HO, HOUT, HB⟩
        case round =>
          clear HO HOUT HB HD HBD1 HL HLM HP0
          obtain ⟨pre, rest, out2, b2, more, HX, rfl, rfl, HPS, HLT, HLE, HLM, HL, HBD2, HD, HO, HOUT, HB⟩ := hrel
          cases rest with
          | nil =>
            have c : decide (pre.length < xs.length) = false := decide_eq_false (by have := len_nil HX.out; omega)
            go_wp2
            go_roundg k1
            case rel => exact ⟨out2, b2, more, rfl, ⟨fun h => ⟨HPM.out _ _ (by rw [← h]; exact HPS.out), by have := HLT.out h; have := HMS.out; omega⟩⟩, ⟨fun h => HPD.out _ _ (by rw [← h]; exact HPS.out)⟩, HLM, HL, HBD2, HD, HO, HOUT, HB⟩
            case measure => omega
          | cons a t =>
            have hlt := len_cons HX.out
            have hpl : (pre.length : Int) < xs.length := by omega
            have ha := HOK.out a (by rw [HX.out]; simp)
            have HA := am_ ha
            have p0 := ha.1.1
            have q0 : a.f0 < (m : Int) := by have := ha.1.2; omega
            have p1 := ha.2.1.1
            have q1 : a.f1 < (m : Int) := by have := ha.2.1.2; omega
            have a2 := ha.2.2.2
            obtain ⟨ad, e0, hx0, hx1, hx2⟩ := at_T54 HR0.out (pre.length : Int) (by omega) hpl
            rw [rd_T54_at HX.out rfl] at hx0 hx1 hx2
            simp only [Int.toNat_natCast] at hx0 hx1 hx2
            cases e0
            replace hx0 := (HB.out.cell (World.block_lt_of_cell? w _ hx0)).trans hx0
            replace hx1 := (HB.out.cell (World.block_lt_of_cell? w _ hx1)).trans hx1
            replace hx2 := (HB.out.cell (World.block_lt_of_cell? w _ hx2)).trans hx2
            have c : decide (pre.length < xs.length) = true := decide_eq_true (by omega)
            have c' : pre.length < xs.length := by omega
            clear hlt
            obtain ⟨Ao, co, hvo⟩ := Kd.R_slice HOUT.out
            subst hvo
            have HSN := am_ (snoc HX.out)
            have HCO := am_ (R_cap HOUT.out)
            have hol : out2.length ≤ 20 := by have := HLM.out; have := HX20.out; omega
            have HOL := am_ hol
            go_upto_region 12 with (fail)
            clear hx0 hx1 hx2
            obtain ⟨W1, hW1⟩ : ∃ W1, W1 = wr.alloc (.cells #[.int .i64 a.f0, .int .i64 a.f1, .int .i64 a.f2] 54) := ⟨_, rfl⟩
            have HK := am_ (show W1.heap[wr.heap.size]? = some (.cells #[.int .i64 a.f0, .int .i64 a.f1, .int .i64 a.f2] 54 (0, 0)) from by rw [hW1]; exact blk_new wr _)
            have HO1 := am_ (show (Kd.int .i64).R 3 W1 w.heap.size (fun _ => True) (.slice (some ⟨g, 0, none⟩) m cap) b2 from by rw [hW1]; exact Kd.R_alloc HO.out _)
            have HOUT1 := am_ (show (Kd.int .i64).R 3 W1 w.heap.size (fun _ => True) (.slice Ao out2.length co) out2 from by rw [hW1]; exact Kd.R_alloc HOUT.out _)
            have HB1 := am_ (show Below w.heap.size w W1 from by rw [hW1]; exact below_alloc HB.out _)
            have gB : wr.heap.size ≠ g := Nat.ne_of_gt (R_ownlt HO.out rfl).2
            rw [← hW1]
            clear hW1 HO HOUT HB
            generalize wr.heap.size = B at HK gB ⊢
            have hk0 := (blk_cell HK.out 0).trans rfl
            have hk1 := (blk_cell HK.out 1).trans rfl
            have hk2 := (blk_cell HK.out 2).trans rfl
            have hy := (Kd.R_celln 0 HO1.out a.f0 p0 q0).1
            obtain ⟨VA, hVA⟩ : ∃ v, v = rd b2 a.f0 := ⟨_, rfl⟩
            rw [show rdOf 0 b2 a.f0 = VA from hVA.symm] at hy
            have bVA : 0 ≤ VA ∧ VA ≤ 1000000000 := by rw [hVA]; exact HBD2.out _ (rd_mem (l := b2) (i := a.f0) p0 (by have := HL.out; omega))
            have HVA := am_ hVA
            clear hVA
            by_cases c1 : (pre.length : Int) ∈ out2
            · obtain ⟨kh, hh⟩ := roundsOf (specHas_ev out2 (pre.length : Int) (by omega))
              rw [decide_eq_true c1] at hh
              have HH := am_ hh
              have HPS1 := am_ ((passS_skip (.inl c1)).symm.trans HPS.out)
              clear hh c1
              go_quiet ((go_at_call 62; exact Calls.quiet_of ((spec_l1Has.calls kh _ _ out2 _ _ _ (by repeat first | exact (R_C HOUT1.out) | with_reducible refine ca_ ?_ _ | with_reducible refine cn_ ?_ _ | with_reducible refine cd_ ?_) HCO.out HH.out).mono fun e w' ⟨he, ⟨n, hw⟩⟩ => ⟨he, n, hw⟩)))
              go_wp2
              go_roundw
              case rel => exact ⟨pre ++ [a], t, out2, b2, more, HSN, by rw [len_snoc], rfl, ⟨by rw [len_snoc]; exact HPS1.out⟩, HLT, HLE, HLM, HL, HBD2, HD, ⟨(by (with_reducible repeat first | apply ra_ | apply rn_ | apply rd_); exact HO1.out)⟩, ⟨(by (with_reducible repeat first | apply ra_ | apply rn_ | apply rd_); exact HOUT1.out)⟩, ⟨(by repeat first | (with_reducible first | exact HB1.out | apply ba_ | apply bn_ | apply bd_) | exact HB1.out)⟩⟩
              case measure => simp [intOf]; omega
            · obtain ⟨kh, hh⟩ := roundsOf (specHas_ev out2 (pre.length : Int) (by omega))
              rw [decide_eq_false c1] at hh
              have HH := am_ hh
              have HC1 := am_ c1
              clear hh c1
              by_cases c2 : VA < a.f2
              · have c2b : decide (VA < a.f2) = true := decide_eq_true c2
                have HPS1 := am_ ((passS_skip (.inr (by rw [← HVA.out]; exact c2))).symm.trans HPS.out)
                clear c2
                go_quiet ((go_at_call 62; exact Calls.quiet_of ((spec_l1Has.calls kh _ _ out2 _ _ _ (by repeat first | exact (R_C HOUT1.out) | with_reducible refine ca_ ?_ _ | with_reducible refine cn_ ?_ _ | with_reducible refine cd_ ?_) HCO.out HH.out).mono fun e w' ⟨he, ⟨n, hw⟩⟩ => ⟨he, n, hw⟩)))
                go_wp2
                go_roundw
                case rel => exact ⟨pre ++ [a], t, out2, b2, more, HSN, by rw [len_snoc], rfl, ⟨by rw [len_snoc]; exact HPS1.out⟩, HLT, HLE, HLM, HL, HBD2, HD, ⟨(by (with_reducible repeat first | apply ra_ | apply rn_ | apply rd_); exact HO1.out)⟩, ⟨(by (with_reducible repeat first | apply ra_ | apply rn_ | apply rd_); exact HOUT1.out)⟩, ⟨(by repeat first | (with_reducible first | exact HB1.out | apply ba_ | apply bn_ | apply bd_) | exact HB1.out)⟩⟩
                case measure => simp [intOf]; omega
              · have c2b : decide (VA < a.f2) = false := decide_eq_false c2
                have HC2N := am_ (show ¬ rd b2 a.f0 < a.f2 from by rw [← HVA.out]; exact c2)
                clear c2
                go_quiet ((go_at_call 62; exact Calls.quiet_of ((spec_l1Has.calls kh _ _ out2 _ _ _ (by repeat first | exact (R_C HOUT1.out) | with_reducible refine ca_ ?_ _ | with_reducible refine cn_ ?_ _ | with_reducible refine cd_ ?_) HCO.out HH.out).mono fun e w' ⟨he, ⟨n, hw⟩⟩ => ⟨he, n, hw⟩)))
                clear hy hk0 hk1 hk2
                have HO2 := am_ (show (Kd.int .i64).R 3 (W1.drewN nq) w.heap.size (fun _ => True) (.slice (some ⟨g, 0, none⟩) m cap) b2 from Kd.R_drewN HO1.out _)
                have HOUT2 := am_ (show (Kd.int .i64).R 3 (W1.drewN nq) w.heap.size (fun _ => True) (.slice Ao out2.length co) out2 from Kd.R_drewN HOUT1.out _)
                have HB2 := am_ (show Below w.heap.size w (W1.drewN nq) from pw_below_drewN HB1.out _)
                have HK2 := am_ (show (W1.drewN nq).heap[B]? = some (.cells #[.int .i64 a.f0, .int .i64 a.f1, .int .i64 a.f2] 54 (0, 0)) from HK.out)
                generalize W1.drewN nq = W2 at HO2 HOUT2 HB2 HK2 ⊢
                clear HK HO1 HOUT1 HB1
                obtain ⟨ps1, ps2, ps3, _, bVB⟩ := rd_posStep1 HA.out HL.out HBD2.out HC2N.out
                obtain ⟨VB, hVB⟩ : ∃ v, v = rd b2 a.f1 := ⟨_, rfl⟩
                rw [← hVB] at ps1 ps2 ps3 bVB
                rw [← HVA.out] at ps1 ps2
                have HP1 := am_ ps1
                have HP2 := am_ ps2
                have HP3 := am_ ps3
                clear hVB ps1 ps2 ps3
                have hk0 := (blk_cell HK2.out 0).trans rfl
                have hk2 := (blk_cell HK2.out 2).trans rfl
                have hy := Kd.R_celln 0 HO2.out a.f0 p0 q0
                rw [show rdOf 0 b2 a.f0 = VA from HVA.out.symm] at hy
                obtain ⟨hy, hf⟩ := hy
                go_upto_region 13 with (fail)
                go_region
                clear hk0 hk2 hy hf
                go_upto_region 14 with (fail)
                have HO3 := am_ (Kd.R_drew (Kd.R_putn HO2.out a.f0 (VA - a.f2)))
                have HOUT3 := am_ (Kd.R_drew (R_offset HOUT2.out HD.out a.f0.toNat (.int .i64 (VA - a.f2))))
                have HB3 := am_ (below_drew (below_set (j := a.f0.toNat) (v := .int .i64 (VA - a.f2)) HB2.out hg1))
                have HK3 := am_ (blk_drew (blk_far HK2.out (p := ⟨g, a.f0.toNat, none⟩) gB (.int .i64 (VA - a.f2))))
                generalize (W2.setCell ⟨g, a.f0.toNat, none⟩ (.int .i64 (VA - a.f2))).drew = W3 at HO3 HOUT3 HB3 HK3 ⊢
                clear HK2 HO2 HOUT2 HB2
                have hk1 := (blk_cell HK3.out 1).trans rfl
                have hk2 := (blk_cell HK3.out 2).trans rfl
                have hy := Kd.R_celln 0 HO3.out a.f1 p1 q1
                rw [show rdOf 0 (b2.set a.f0.toNat (VA - a.f2)) a.f1 = VB from HP2.out] at hy
                obtain ⟨hy, hf⟩ := hy
                go_region
                clear hk1 hk2 hy hf
                go_upto_region 15 with (fail)
                have HO4 := am_ (Kd.R_drew (Kd.R_putn HO3.out a.f1 (VB + a.f2)))
                have HOUT4 := am_ (Kd.R_drew (R_offset HOUT3.out HD.out a.f1.toNat (.int .i64 (VB + a.f2))))
                have HB4 := am_ (below_drew (below_set (j := a.f1.toNat) (v := .int .i64 (VB + a.f2)) HB3.out hg1))
                have HK4 := am_ (blk_drew (blk_far HK3.out (p := ⟨g, a.f1.toNat, none⟩) gB (.int .i64 (VB + a.f2))))
                generalize (W3.setCell ⟨g, a.f1.toNat, none⟩ (.int .i64 (VB + a.f2))).drew = W4 at HO4 HOUT4 HB4 HK4 ⊢
                clear HK3 HO3 HOUT3 HB3
                rw [← HP1.out] at HO4
                have hk1 := (blk_cell HK4.out 1).trans rfl
                have hy := (Kd.R_celln 0 HO4.out a.f1 p1 q1).1
                rw [show rdOf 0 (posStep b2 a) a.f1 = VB + a.f2 from HP3.out] at hy
                by_cases c3 : 1000000000 < VB + a.f2
                · have c3b : decide (1000000000 < VB + a.f2) = true := decide_eq_true c3
                  have hend := passS_over (t := t) (more := more) HC1.out HC2N.out (by rw [HP3.out]; exact c3)
                  have HEND := am_ (HPN.out (HPS.out.symm.trans hend))
                  clear c3 hend
                  go_upto_region 16 with (fail)
                  clear hy hk1
                  go_wp2_with (first
                    | (((with_reducible refine gate_dst (N := 83) rfl ?_); refine Kd.R_lit (Kd.int .i64) w.heap.size 3 (w0 := w) ?hg (N := 83) ?hd (xs := []) (inner := []) (ok := fun _ => True) (okp := fun _ => True) ?hr ?hp (fun _ hk => hk) trivial (by repeat first | (with_reducible first | exact HB4.out | apply ba_ | apply bn_ | apply bd_) | exact HB4.out) (below_size (by repeat first | (with_reducible first | exact HB4.out | apply ba_ | apply bn_ | apply bd_) | exact HB4.out)) (by simp) ?_; (case hd => rfl); (case hg => rfl); (case hr => first | (go_simp; done) | (go_simp; rfl)); (case hp => exact (Reps.none _ _)); intro v1 w1 ho hb hgr hnw); have HE1 := am_ ho; have HBE := am_ hb; clear ho hb hgr hnw HO4 HOUT4 HB4 HK4)
                    | (((with_reducible refine gate_dst (N := 84) rfl ?_); refine Kd.R_lit (Kd.int .i64) w.heap.size 3 (w0 := w) ?hg (N := 84) ?hd (xs := []) (inner := []) (ok := fun _ => True) (okp := fun _ => True) ?hr ?hp (fun _ hk => hk) trivial (by repeat first | (with_reducible first | exact HBE.out | apply ba_ | apply bn_ | apply bd_) | exact HBE.out) (below_size (by repeat first | (with_reducible first | exact HBE.out | apply ba_ | apply bn_ | apply bd_) | exact HBE.out)) (by simp) ?_; (case hd => rfl); (case hg => rfl); (case hr => first | (go_simp; done) | (go_simp; rfl)); (case hp => exact (Reps.none _ _)); intro v1 w1 ho hb hgr hnw); have HE2 := am_ (R_same (by (with_reducible repeat first | apply ra_ | apply rn_ | apply rd_); exact HE1.out) hgr)))
                  obtain ⟨bq, hq1, hq2⟩ := hnw
                  go_ret3
                  rw [HEND.out]
                  exact ⟨_, _, rfl, (by (with_reducible repeat first | apply ra_ | apply rn_ | apply rd_); exact HE2.out), (by (with_reducible repeat first | apply ra_ | apply rn_ | apply rd_); exact ho), fun k hk e => by have h1 := (R_ownlt HE1.out hk).2; have e2 : v1.ownBlock = some k := e; rw [hq1] at e2; injection e2 with e2; omega, (by repeat first | (with_reducible first | exact hb | apply ba_ | apply bn_ | apply bd_) | exact hb)⟩
                · have c3b : decide (1000000000 < VB + a.f2) = false := decide_eq_false c3
                  have htk := passS_take (t := t) (more := more) HC1.out HC2N.out (by rw [HP3.out]; exact c3)
                  have HPS1 := am_ (htk.symm.trans HPS.out)
                  have hok1 := posStep_ok HA.out HL.out HBD2.out HC2N.out (by rw [HP3.out]; exact c3)
                  have HBD3 := am_ hok1
                  have hms := miss_add (l := out2) (i := pre.length) HC1.out xs.length c'
                  have HMI := am_ hms
                  clear c3 htk hok1 hms
                  go_upto_region 17 with (fail)
                  clear hy hk1
                  go_upto_region 18 with ((with_reducible refine gate_builtin (b := .append) (xs := #[.tmp 85, .tmp 87]) rfl ?_); at_builtin; refine Kd.R_append (Kd.int .i64) (w0 := w) w.heap.size rfl (.tmp 85) (.tmp 87) 31 3 (.int .i64 0) 8 rfl Try.underlying31 infoI rfl (by decide) (by omega) (.slice Ao out2.length co) out2 (pre.length : Int) [.int .i64 pre.length] (fun _ => True) (fun _ => False) rfl rfl ?aP (fun _ hk => hk.elim) ?aF ?aO ?aB ?aS ?aL ?_; (case aP => exact rfl); (case aB => exact (by repeat first | (with_reducible first | exact HB4.out | apply ba_ | apply bn_ | apply bd_) | exact HB4.out)); (case aF => exact (fun _ _ => trivial)); (case aO => exact (by (with_reducible repeat first | apply ra_ | apply rn_ | apply rd_); exact HOUT4.out)); (case aS => exact (below_size (by repeat first | (with_reducible first | exact HB4.out | apply ba_ | apply bn_ | apply bd_) | exact HB4.out))); (case aL => omega); intro v1 w1 ho hb hg hat)
                  have HO5 := am_ (R_offrow (by (with_reducible repeat first | apply ra_ | apply rn_ | apply rd_); exact HO4.out) hg (fun k hk e => HD.out k e (by injection hk with hk; exact hk.symm)))
                  have HOUT5 := am_ ho
                  have HB5 := am_ hb
                  have HD5 := am_ (off_app HD.out (R_ownlt HO4.out rfl).2 hat)
                  clear ho hb hg hat HO4 HOUT4 HB4 HK4 HD
                  go_wp2
                  go_roundw
                  case rel => exact ⟨pre ++ [a], t, out2 ++ [(pre.length : Int)], posStep b2 a, true, HSN, by rw [len_snoc], rfl, ⟨by rw [len_snoc]; exact HPS1.out⟩, ⟨fun _ => by have := HMI.out; have := HLE.out; omega⟩, ⟨by have := HMI.out; have := HLE.out; omega⟩, ⟨by rw [List.length_append, List.length_singleton]; have := HMI.out; have := HLM.out; omega⟩, ⟨by rw [posStep_length]; exact HL.out⟩, HBD3, HD5, ⟨(by (with_reducible repeat first | apply ra_ | apply rn_ | apply rd_); exact HO5.out)⟩, ⟨(by (with_reducible repeat first | apply ra_ | apply rn_ | apply rd_); exact HOUT5.out)⟩, ⟨(by repeat first | (with_reducible first | exact HB5.out | apply ba_ | apply bn_ | apply bd_) | exact HB5.out)⟩⟩
                  case measure => simp [intOf]; omega
  · have hfin : setA xs p bal = ([], [], false) := by unfold setA; rw [if_neg (by rw [← hgc, ← hgb]; exact g)]
    rw [hfin]
    cases gc with
    | false =>
      clear hfin ha0 ha2 hgc hgb g hvb hv hr0 hc0 hr2 hc2
      go_enter Try.func31, Try.ntmps31
      go_wp2_with ((with_reducible refine gate_dst (N := 14) rfl ?_); refine Kd.R_lit (Kd.int .i64) w.heap.size 3 (w0 := w) ?hg (N := 14) ?hd (xs := []) (inner := []) (ok := fun _ => True) (okp := fun _ => True) ?hr ?hp (fun _ hk => hk) trivial (by repeat first | (with_reducible first | exact (Below.refl w.heap.size w) | apply ba_ | apply bn_ | apply bd_) | exact (Below.refl w.heap.size w)) (below_size (by repeat first | (with_reducible first | exact (Below.refl w.heap.size w) | apply ba_ | apply bn_ | apply bd_) | exact (Below.refl w.heap.size w))) (by simp) ?_; (case hd => rfl); (case hg => rfl); (case hr => first | (go_simp; done) | (go_simp; rfl)); (case hp => exact (Reps.none _ _)); intro v1 w1 ho hb hgr hnw)
      have HOUT := am_ ho
      have HB := am_ hb
      clear ho hb hgr hnw
      refine (spec_l16Good.calls kv _ _ xs _ false _ (by repeat first | exact (Kd.C_below HR0.out HB.out) | with_reducible refine ca_ ?_ _ | with_reducible refine cn_ ?_ _ | with_reducible refine cd_ ?_) HC0.out HV.out).mono ?_
      rintro e w2 ⟨rfl, hb⟩
      replace HOUT := am_ (Kd.R_below (by (with_reducible repeat first | apply ra_ | apply rn_ | apply rd_); exact HOUT.out) hb); replace HB := am_ (below_step (by repeat first | (with_reducible first | exact HB.out | apply ba_ | apply bn_ | apply bd_) | exact HB.out) hb); clear hb
      go_wp2_with (((with_reducible refine gate_dst (N := 26) rfl ?_); refine Kd.R_lit (Kd.int .i64) w.heap.size 3 (w0 := w) ?hg (N := 26) ?hd (xs := []) (inner := []) (ok := fun _ => True) (okp := fun _ => True) ?hr ?hp (fun _ hk => hk) trivial (by repeat first | (with_reducible first | exact HB.out | apply ba_ | apply bn_ | apply bd_) | exact HB.out) (below_size (by repeat first | (with_reducible first | exact HB.out | apply ba_ | apply bn_ | apply bd_) | exact HB.out)) (by simp) ?_; (case hd => rfl); (case hg => rfl); (case hr => first | (go_simp; done) | (go_simp; rfl)); (case hp => exact (Reps.none _ _)); intro v1 w1 ho hb hgr hnw); have HE2 := am_ (R_same (by (with_reducible repeat first | apply ra_ | apply rn_ | apply rd_); exact HOUT.out) hgr))
      obtain ⟨bq, hq1, hq2⟩ := hnw
      go_ret3
      exact ⟨_, _, rfl, (by (with_reducible repeat first | apply ra_ | apply rn_ | apply rd_); exact HE2.out), (by (with_reducible repeat first | apply ra_ | apply rn_ | apply rd_); exact ho), fun k hk e => by have h1 := (R_ownlt HOUT.out hk).2; have e2 : v1.ownBlock = some k := e; rw [hq1] at e2; injection e2 with e2; omega, (by repeat first | (with_reducible first | exact hb | apply ba_ | apply bn_ | apply bd_) | exact hb)⟩
    | true =>
      cases gb with
      | true => exact absurd ⟨rfl, rfl⟩ g
      | false =>
        clear hfin ha0 ha2 hgc hgb g hvb hv hr0 hc0 hr2 hc2
        go_enter Try.func31, Try.ntmps31
        go_wp2_with ((with_reducible refine gate_dst (N := 14) rfl ?_); refine Kd.R_lit (Kd.int .i64) w.heap.size 3 (w0 := w) ?hg (N := 14) ?hd (xs := []) (inner := []) (ok := fun _ => True) (okp := fun _ => True) ?hr ?hp (fun _ hk => hk) trivial (by repeat first | (with_reducible first | exact (Below.refl w.heap.size w) | apply ba_ | apply bn_ | apply bd_) | exact (Below.refl w.heap.size w)) (below_size (by repeat first | (with_reducible first | exact (Below.refl w.heap.size w) | apply ba_ | apply bn_ | apply bd_) | exact (Below.refl w.heap.size w))) (by simp) ?_; (case hd => rfl); (case hg => rfl); (case hr => first | (go_simp; done) | (go_simp; rfl)); (case hp => exact (Reps.none _ _)); intro v1 w1 ho hb hgr hnw)
        have HOUT := am_ ho
        have HB := am_ hb
        clear ho hb hgr hnw
        refine (spec_l16Good.calls kv _ _ xs _ true _ (by repeat first | exact (Kd.C_below HR0.out HB.out) | with_reducible refine ca_ ?_ _ | with_reducible refine cn_ ?_ _ | with_reducible refine cd_ ?_) HC0.out HV.out).mono ?_
        rintro e w2 ⟨rfl, hb⟩
        replace HOUT := am_ (Kd.R_below (by (with_reducible repeat first | apply ra_ | apply rn_ | apply rd_); exact HOUT.out) hb); replace HB := am_ (below_step (by repeat first | (with_reducible first | exact HB.out | apply ba_ | apply bn_ | apply bd_) | exact HB.out) hb); clear hb
        go_wp2_with fail
        refine (spec_l16Balances.calls kb _ _ bal _ false _ (by repeat first | exact (Kd.C_below HR2.out HB.out) | with_reducible refine ca_ ?_ _ | with_reducible refine cn_ ?_ _ | with_reducible refine cd_ ?_) HC2.out HVB.out).mono ?_
        rintro e w3 ⟨rfl, hb0⟩
        have hb := db_ hb0
        replace HOUT := am_ (Kd.R_below (by (with_reducible repeat first | apply ra_ | apply rn_ | apply rd_); exact HOUT.out) hb); replace HB := am_ (below_step (by repeat first | (with_reducible first | exact HB.out | apply ba_ | apply bn_ | apply bd_) | exact HB.out) hb); clear hb
        clear hb0
        go_wp2_with (((with_reducible refine gate_dst (N := 26) rfl ?_); refine Kd.R_lit (Kd.int .i64) w.heap.size 3 (w0 := w) ?hg (N := 26) ?hd (xs := []) (inner := []) (ok := fun _ => True) (okp := fun _ => True) ?hr ?hp (fun _ hk => hk) trivial (by repeat first | (with_reducible first | exact HB.out | apply ba_ | apply bn_ | apply bd_) | exact HB.out) (below_size (by repeat first | (with_reducible first | exact HB.out | apply ba_ | apply bn_ | apply bd_) | exact HB.out)) (by simp) ?_; (case hd => rfl); (case hg => rfl); (case hr => first | (go_simp; done) | (go_simp; rfl)); (case hp => exact (Reps.none _ _)); intro v1 w1 ho hb hgr hnw); have HE2 := am_ (R_same (by (with_reducible repeat first | apply ra_ | apply rn_ | apply rd_); exact HOUT.out) hgr))
        obtain ⟨bq, hq1, hq2⟩ := hnw
        go_ret3
        exact ⟨_, _, rfl, (by (with_reducible repeat first | apply ra_ | apply rn_ | apply rd_); exact HE2.out), (by (with_reducible repeat first | apply ra_ | apply rn_ | apply rd_); exact ho), fun k hk e => by have h1 := (R_ownlt HOUT.out hk).2; have e2 : v1.ownBlock = some k := e; rw [hq1] at e2; injection e2 with e2; omega, (by repeat first | (with_reducible first | exact hb | apply ba_ | apply bn_ | apply bd_) | exact hb)⟩
set_option maxHeartbeats 8000000 in
set_option maxRecDepth 100000 in
theorem ordI_c (A0 : Option Addr) (c0 : Nat) (xs : List S54) (p : Int) (A2 : Option Addr) (c2 : Nat) (bal : List Int) (w : World) (hr0 : Kd.C k54 w A0 xs.length xs) (hc0 : xs.length ≤ c0) (ha0 : 0 < xs.length → ∃ b, A0 = some ⟨b, 0, none⟩) (hn : xs.length ≤ 1048576) (hr2 : (Kd.int .i64).C w A2 bal.length bal) (hc2 : bal.length ≤ c2) (ha2 : 0 < bal.length → ∃ b, A2 = some ⟨b, 0, none⟩) (hm : bal.length ≤ 1048576) :
    Calls Try.prog 33 #[.slice A0 xs.length c0, .int .i64 p, .slice A2 bal.length c2] w fun e w' => ∃ v1 v2, e = .returned (.tuple #[v1, v2, .bool (setA xs p bal).2.2]) ∧ (Kd.int .i64).R 3 w' w.heap.size (fun _ => True) v1 (setA xs p bal).1 ∧ (Kd.int .i64).R 3 w' w.heap.size (fun _ => True) v2 (setA xs p bal).2.1 ∧ (∀ k, v1.ownBlock = some k → v2.ownBlock ≠ some k) ∧ Below w.heap.size w w' := by

  obtain ⟨gc, hgc⟩ : ∃ q, q = goodC xs p := ⟨_, rfl⟩
  obtain ⟨gb, hgb⟩ : ∃ q, q = goodB bal p := ⟨_, rfl⟩

  have HR0 := am_ hr0
  have HC0 := am_ hc0
  have HR2 := am_ hr2
  have HC2 := am_ hc2
  by_cases g : gc = true ∧ gb = true
  · obtain ⟨rfl, rfl⟩ := g
    have gg := of_decide_eq_true hgc.symm
    have gg2 := of_decide_eq_true hgb.symm
    obtain ⟨⟨p1, p2⟩, hx20, hok, hsum⟩ := gg
    obtain ⟨m, rfl⟩ := Int.eq_ofNat_of_zero_le (show 0 ≤ p from by omega)
    have hbl : bal.length = m := by have := gg2.1; omega
    have hfin : setA xs m bal = settleK xs (xs.length + 1) [] bal := by unfold setA; rw [if_pos ⟨hgc.symm, hgb.symm⟩]
    obtain ⟨bb, rfl⟩ := ha2 (by omega)
    have HBL := am_ hbl
    rw [hfin]
    obtain ⟨FIN, hFIN⟩ : ∃ F, F = settleK xs (xs.length + 1) [] bal := ⟨_, rfl⟩
    rw [← hFIN]
    have HF := am_ hFIN.symm
    have HOK := am_ hok
    have HBD := am_ gg2.2
    have HX20 := am_ hx20
    have m1 : 2 ≤ m := by omega
    have m2 : m ≤ 8 := by omega
    have HG := am_ (show (goodC xs m && goodB bal m) = true from by rw [← hgc, ← hgb]; rfl)
    clear hr0 hc0 hr2 hc2 hok hx20 hfin hsum ha0 p1 p2 gg2 hFIN ha2 hgc hgb hbl
    go_enter Try.func33, Try.ntmps33
    go_wp2_with fail
    refine (areBal_c _ _ xs _ _ _ bal _ HR0.out HC0.out HR2.out (fun _ => ⟨_, rfl⟩) hn hm).mono ?_
    rw [HG.out]
    rintro e w1 ⟨rfl, hb⟩
    have HB := am_ hb
    clear hb
    go_wp2_with fail
    refine (cloneInt_c _ _ bal _ (by repeat first | exact (Kd.C_below HR2.out HB.out) | with_reducible refine ca_ ?_ _ | with_reducible refine cn_ ?_ _ | with_reducible refine cd_ ?_) hm).mono ?_
    rintro e w2 ⟨v9, rfl, ho, hb⟩
    obtain ⟨g, cap, hv9, hg1, hg2, cells, hg3⟩ := Kd.R_form ho (by have := HBL.out; omega)
    rw [HBL.out] at hv9
    subst hv9
    have HO := am_ (Kd.R_lower ho (show w.heap.size ≤ _ from below_size HB.out))
    replace hg1 : w.heap.size ≤ g := Nat.le_trans (below_size HB.out) hg1
    replace HB := am_ (below_step (by repeat first | (with_reducible first | exact HB.out | apply ba_ | apply bn_ | apply bd_) | exact HB.out) hb); clear hb
    clear ho hg2 hg3 cells
    go_wp2_with (((with_reducible refine gate_dst (N := 21) rfl ?_); refine Kd.R_lit (Kd.int .i64) w.heap.size 3 (w0 := w) ?hg (N := 21) ?hd (xs := []) (inner := []) (ok := fun _ => True) (okp := fun _ => True) ?hr ?hp (fun _ hk => hk) trivial (by repeat first | (with_reducible first | exact HB.out | apply ba_ | apply bn_ | apply bd_) | exact HB.out) (below_size (by repeat first | (with_reducible first | exact HB.out | apply ba_ | apply bn_ | apply bd_) | exact HB.out)) (by simp) ?_; (case hd => rfl); (case hg => rfl); (case hr => first | (go_simp; done) | (go_simp; rfl)); (case hp => exact (Reps.none _ _)); intro v1 w1 ho hb hgr hnw); have HO2 := am_ (R_same (by (with_reducible repeat first | apply ra_ | apply rn_ | apply rd_); exact HO.out) hgr); have HOUT := am_ ho; clear HB; have HB := am_ hb)
    obtain ⟨bq, hq1, hq2⟩ := hnw
    have HD := am_ (show ∀ k, v1.ownBlock = some k → k ≠ g from fun k hk => by have h1 : g < _ := (R_ownlt HO.out rfl).2; rw [hq1] at hk; injection hk with hk; omega)
    clear HO ho hb hgr hq1 hq2
    have HO := HO2
    clear HO2
    go_loopg [10, 11] (xs.length + 1) (fun kq vo v11 wr => ∃ (out b : List Int) (more : Bool), v11 = .bool more ∧ Aside0 (more = true → settleK xs kq out b = FIN ∧ miss xs.length out < kq) ∧ Aside0 (more = false → (out, b, true) = FIN) ∧ Aside0 (out.length + miss xs.length out = xs.length) ∧ Aside0 (b.length = m) ∧ Aside0 (∀ x ∈ b, 0 ≤ x ∧ x ≤ 1000000000) ∧ Aside0 (∀ k, vo.ownBlock = some k → k ≠ g) ∧ Aside0 ((Kd.int .i64).R 3 wr w.heap.size (fun _ => True) (.slice (some ⟨g, 0, none⟩) m cap) b) ∧ Aside0 ((Kd.int .i64).R 3 wr w.heap.size (fun _ => True) vo out) ∧ Aside0 (Below w.heap.size w wr))
    case atStart => exact ⟨[], bal, true, rfl, ⟨fun _ => ⟨HF.out, by rw [miss_nil]; omega⟩⟩, ⟨fun h => by cases h⟩, ⟨by rw [miss_nil]; simp⟩, HBL, HBD, HD, HO, HOUT, HB⟩
    case round =>
      clear HO HOUT HB HD
      obtain ⟨out, b, more, rfl, HMT, HMF, HLM, HL, HBD1, HD, HO, HOUT, HB⟩ := hrel
      cases more with
      | false =>
        go_wp2
        go_ret3
        rw [← HMF.out (by trivial)]
        exact ⟨_, _, rfl, (by (with_reducible repeat first | apply ra_ | apply rn_ | apply rd_); exact HOUT.out), (by (with_reducible repeat first | apply ra_ | apply rn_ | apply rd_); exact HO.out), fun k hk e => HD.out k hk (by injection e with e; exact e.symm), (by repeat first | (with_reducible first | exact HB.out | apply ba_ | apply bn_ | apply bd_) | exact HB.out)⟩
      | true =>
        obtain ⟨hset, hms⟩ := HMT.out (by trivial)
        obtain ⟨k1, rfl⟩ : ∃ k1, gk = k1 + 1 := ⟨gk - 1, by omega⟩
        obtain ⟨PASS, hP⟩ : ∃ P, P = passS xs 0 out b false := ⟨_, rfl⟩
        obtain ⟨ms, hmse⟩ : ∃ q, q = miss xs.length out := ⟨_, rfl⟩
        rw [← hmse] at hms
        have HMS := am_ (show ms ≤ k1 from by omega)
        have HPN := am_ (show PASS = none → FIN = ([], [], false) from fun h => by rw [← hset]; exact settleK_none (hP.symm.trans h))
        have HPM := am_ (show ∀ o b, some (o, b, true) = PASS → settleK xs k1 o b = FIN from fun o b h => by rw [← hset]; exact (settleK_more (hP.symm.trans h.symm)).symm)
        have HPD := am_ (show ∀ o b, some (o, b, false) = PASS → (o, b, true) = FIN from fun o b h => by rw [← hset]; exact (settleK_done (hP.symm.trans h.symm)).symm)
        have HP0 := am_ hP.symm
        have MSLE := Nat.le_of_eq hmse.symm
        clear hset hms hP hmse HMT HMF
        go_wp2
        go_loopw [10, 11, 25] (fun vo v11 vi wr => ∃ (pre rest : List S54) (out2 b2 : List Int) (more : Bool), Aside0 (xs = pre ++ rest) ∧ vi = .int .i64 pre.length ∧ v11 = .bool more ∧ Aside0 (passS rest pre.length out2 b2 more = PASS) ∧ Aside0 (more = true → miss xs.length out2 < ms) ∧ Aside0 (miss xs.length out2 ≤ ms) ∧ Aside0 (out2.length + miss xs.length out2 = xs.length) ∧ Aside0 (b2.length = m) ∧ Aside0 (∀ x ∈ b2, 0 ≤ x ∧ x ≤ 1000000000) ∧ Aside0 (∀ k, vo.ownBlock = some k → k ≠ g) ∧ Aside0 ((Kd.int .i64).R 3 wr w.heap.size (fun _ => True) (.slice (some ⟨g, 0, none⟩) m cap) b2) ∧ Aside0 ((Kd.int .i64).R 3 wr w.heap.size (fun _ => True) vo out2) ∧ Aside0 (Below w.heap.size w wr)) (fun _ _ vi _ => xs.length - (intOf vi).toNat)
        case atStart => exact ⟨[], xs, out, b, false, ⟨rfl⟩, rfl, rfl, HP0, ⟨fun h => by cases h⟩, ⟨MSLE⟩, HLM, HL, HBD1, HD, HO, HOUT, HB⟩
        case round =>
          clear HO HOUT HB HD HBD1 HL HLM HP0
          obtain ⟨pre, rest, out2, b2, more, HX, rfl, rfl, HPS, HLT, HLE, HLM, HL, HBD2, HD, HO, HOUT, HB⟩ := hrel
          cases rest with
          | nil =>
            have c : decide (pre.length < xs.length) = false := decide_eq_false (by have := len_nil HX.out; omega)
            go_wp2
            go_roundg k1
            case rel => exact ⟨out2, b2, more, rfl, ⟨fun h => ⟨HPM.out _ _ (by rw [← h]; exact HPS.out), by have := HLT.out h; have := HMS.out; omega⟩⟩, ⟨fun h => HPD.out _ _ (by rw [← h]; exact HPS.out)⟩, HLM, HL, HBD2, HD, HO, HOUT, HB⟩
            case measure => omega
          | cons a t =>
            have hlt := len_cons HX.out
            have hpl : (pre.length : Int) < xs.length := by omega
            have ha := HOK.out a (by rw [HX.out]; simp)
            have HA := am_ ha
            have p0 := ha.1.1
            have q0 : a.f0 < (m : Int) := by have := ha.1.2; omega
            have p1 := ha.2.1.1
            have q1 : a.f1 < (m : Int) := by have := ha.2.1.2; omega
            have a2 := ha.2.2.2
            obtain ⟨ad, e0, hx0, hx1, hx2⟩ := at_T54 HR0.out (pre.length : Int) (by omega) hpl
            rw [rd_T54_at HX.out rfl] at hx0 hx1 hx2
            simp only [Int.toNat_natCast] at hx0 hx1 hx2
            cases e0
            replace hx0 := (HB.out.cell (World.block_lt_of_cell? w _ hx0)).trans hx0
            replace hx1 := (HB.out.cell (World.block_lt_of_cell? w _ hx1)).trans hx1
            replace hx2 := (HB.out.cell (World.block_lt_of_cell? w _ hx2)).trans hx2
            have c : decide (pre.length < xs.length) = true := decide_eq_true (by omega)
            have c' : pre.length < xs.length := by omega
            clear hlt
            obtain ⟨Ao, co, hvo⟩ := Kd.R_slice HOUT.out
            subst hvo
            have HSN := am_ (snoc HX.out)
            have HCO := am_ (R_cap HOUT.out)
            have hol : out2.length ≤ 20 := by have := HLM.out; have := HX20.out; omega
            have HOL := am_ hol
            go_upto_region 11 with (fail)
            clear hx0 hx1 hx2
            obtain ⟨W1, hW1⟩ : ∃ W1, W1 = wr.alloc (.cells #[.int .i64 a.f0, .int .i64 a.f1, .int .i64 a.f2] 54) := ⟨_, rfl⟩
            have HK := am_ (show W1.heap[wr.heap.size]? = some (.cells #[.int .i64 a.f0, .int .i64 a.f1, .int .i64 a.f2] 54 (0, 0)) from by rw [hW1]; exact blk_new wr _)
            have HO1 := am_ (show (Kd.int .i64).R 3 W1 w.heap.size (fun _ => True) (.slice (some ⟨g, 0, none⟩) m cap) b2 from by rw [hW1]; exact Kd.R_alloc HO.out _)
            have HOUT1 := am_ (show (Kd.int .i64).R 3 W1 w.heap.size (fun _ => True) (.slice Ao out2.length co) out2 from by rw [hW1]; exact Kd.R_alloc HOUT.out _)
            have HB1 := am_ (show Below w.heap.size w W1 from by rw [hW1]; exact below_alloc HB.out _)
            have gB : wr.heap.size ≠ g := Nat.ne_of_gt (R_ownlt HO.out rfl).2
            rw [← hW1]
            clear hW1 HO HOUT HB
            generalize wr.heap.size = B at HK gB ⊢
            have hk0 := (blk_cell HK.out 0).trans rfl
            have hk1 := (blk_cell HK.out 1).trans rfl
            have hk2 := (blk_cell HK.out 2).trans rfl
            have hy := (Kd.R_celln 0 HO1.out a.f0 p0 q0).1
            obtain ⟨VA, hVA⟩ : ∃ v, v = rd b2 a.f0 := ⟨_, rfl⟩
            rw [show rdOf 0 b2 a.f0 = VA from hVA.symm] at hy
            have bVA : 0 ≤ VA ∧ VA ≤ 1000000000 := by rw [hVA]; exact HBD2.out _ (rd_mem (l := b2) (i := a.f0) p0 (by have := HL.out; omega))
            have HVA := am_ hVA
            clear hVA
            by_cases c1 : (pre.length : Int) ∈ out2
            · obtain ⟨kh, hh⟩ := roundsOf (contains_ev out2 (pre.length : Int) (by omega))
              rw [decide_eq_true c1] at hh
              have HH := am_ hh
              have HPS1 := am_ ((passS_skip (.inl c1)).symm.trans HPS.out)
              clear hh c1
              go_quiet ((go_at_call 65; exact Calls.quiet_of ((slices_Contains_int_int.calls kh _ _ out2 _ _ _ (by repeat first | exact (R_C HOUT1.out) | with_reducible refine ca_ ?_ _ | with_reducible refine cn_ ?_ _ | with_reducible refine cd_ ?_) HCO.out HH.out).mono fun e w' ⟨he, ⟨n, hw⟩⟩ => ⟨he, n, hw⟩)))
              go_wp2
              go_roundw
              case rel => exact ⟨pre ++ [a], t, out2, b2, more, HSN, by rw [len_snoc], rfl, ⟨by rw [len_snoc]; exact HPS1.out⟩, HLT, HLE, HLM, HL, HBD2, HD, ⟨(by (with_reducible repeat first | apply ra_ | apply rn_ | apply rd_); exact HO1.out)⟩, ⟨(by (with_reducible repeat first | apply ra_ | apply rn_ | apply rd_); exact HOUT1.out)⟩, ⟨(by repeat first | (with_reducible first | exact HB1.out | apply ba_ | apply bn_ | apply bd_) | exact HB1.out)⟩⟩
              case measure => simp [intOf]; omega
            · obtain ⟨kh, hh⟩ := roundsOf (contains_ev out2 (pre.length : Int) (by omega))
              rw [decide_eq_false c1] at hh
              have HH := am_ hh
              have HC1 := am_ c1
              clear hh c1
              by_cases c2 : VA < a.f2
              · have c2b : decide (VA < a.f2) = true := decide_eq_true c2
                have HPS1 := am_ ((passS_skip (.inr (by rw [← HVA.out]; exact c2))).symm.trans HPS.out)
                clear c2
                go_quiet ((go_at_call 65; exact Calls.quiet_of ((slices_Contains_int_int.calls kh _ _ out2 _ _ _ (by repeat first | exact (R_C HOUT1.out) | with_reducible refine ca_ ?_ _ | with_reducible refine cn_ ?_ _ | with_reducible refine cd_ ?_) HCO.out HH.out).mono fun e w' ⟨he, ⟨n, hw⟩⟩ => ⟨he, n, hw⟩)))
                go_wp2
                go_roundw
                case rel => exact ⟨pre ++ [a], t, out2, b2, more, HSN, by rw [len_snoc], rfl, ⟨by rw [len_snoc]; exact HPS1.out⟩, HLT, HLE, HLM, HL, HBD2, HD, ⟨(by (with_reducible repeat first | apply ra_ | apply rn_ | apply rd_); exact HO1.out)⟩, ⟨(by (with_reducible repeat first | apply ra_ | apply rn_ | apply rd_); exact HOUT1.out)⟩, ⟨(by repeat first | (with_reducible first | exact HB1.out | apply ba_ | apply bn_ | apply bd_) | exact HB1.out)⟩⟩
                case measure => simp [intOf]; omega
              · have c2b : decide (VA < a.f2) = false := decide_eq_false c2
                have HC2N := am_ (show ¬ rd b2 a.f0 < a.f2 from by rw [← HVA.out]; exact c2)
                clear c2
                go_quiet ((go_at_call 65; exact Calls.quiet_of ((slices_Contains_int_int.calls kh _ _ out2 _ _ _ (by repeat first | exact (R_C HOUT1.out) | with_reducible refine ca_ ?_ _ | with_reducible refine cn_ ?_ _ | with_reducible refine cd_ ?_) HCO.out HH.out).mono fun e w' ⟨he, ⟨n, hw⟩⟩ => ⟨he, n, hw⟩)))
                clear hy hk0 hk1 hk2
                have HO2 := am_ (show (Kd.int .i64).R 3 (W1.drewN nq) w.heap.size (fun _ => True) (.slice (some ⟨g, 0, none⟩) m cap) b2 from Kd.R_drewN HO1.out _)
                have HOUT2 := am_ (show (Kd.int .i64).R 3 (W1.drewN nq) w.heap.size (fun _ => True) (.slice Ao out2.length co) out2 from Kd.R_drewN HOUT1.out _)
                have HB2 := am_ (show Below w.heap.size w (W1.drewN nq) from pw_below_drewN HB1.out _)
                have HK2 := am_ (show (W1.drewN nq).heap[B]? = some (.cells #[.int .i64 a.f0, .int .i64 a.f1, .int .i64 a.f2] 54 (0, 0)) from HK.out)
                generalize W1.drewN nq = W2 at HO2 HOUT2 HB2 HK2 ⊢
                clear HK HO1 HOUT1 HB1
                obtain ⟨ps1, ps2, ps3, _, bVB⟩ := rd_posStep1 HA.out HL.out HBD2.out HC2N.out
                obtain ⟨VB, hVB⟩ : ∃ v, v = rd b2 a.f1 := ⟨_, rfl⟩
                rw [← hVB] at ps1 ps2 ps3 bVB
                rw [← HVA.out] at ps1 ps2
                have HP1 := am_ ps1
                have HP2 := am_ ps2
                have HP3 := am_ ps3
                clear hVB ps1 ps2 ps3
                have hk0 := (blk_cell HK2.out 0).trans rfl
                have hk2 := (blk_cell HK2.out 2).trans rfl
                have hy := Kd.R_celln 0 HO2.out a.f0 p0 q0
                rw [show rdOf 0 b2 a.f0 = VA from HVA.out.symm] at hy
                obtain ⟨hy, hf⟩ := hy
                go_upto_region 12 with (fail)
                go_region
                clear hk0 hk2 hy hf
                go_upto_region 13 with (fail)
                have HO3 := am_ (Kd.R_drew (Kd.R_putn HO2.out a.f0 (VA - a.f2)))
                have HOUT3 := am_ (Kd.R_drew (R_offset HOUT2.out HD.out a.f0.toNat (.int .i64 (VA - a.f2))))
                have HB3 := am_ (below_drew (below_set (j := a.f0.toNat) (v := .int .i64 (VA - a.f2)) HB2.out hg1))
                have HK3 := am_ (blk_drew (blk_far HK2.out (p := ⟨g, a.f0.toNat, none⟩) gB (.int .i64 (VA - a.f2))))
                generalize (W2.setCell ⟨g, a.f0.toNat, none⟩ (.int .i64 (VA - a.f2))).drew = W3 at HO3 HOUT3 HB3 HK3 ⊢
                clear HK2 HO2 HOUT2 HB2
                have hk1 := (blk_cell HK3.out 1).trans rfl
                have hk2 := (blk_cell HK3.out 2).trans rfl
                have hy := Kd.R_celln 0 HO3.out a.f1 p1 q1
                rw [show rdOf 0 (b2.set a.f0.toNat (VA - a.f2)) a.f1 = VB from HP2.out] at hy
                obtain ⟨hy, hf⟩ := hy
                go_region
                clear hk1 hk2 hy hf
                go_upto_region 14 with (fail)
                have HO4 := am_ (Kd.R_drew (Kd.R_putn HO3.out a.f1 (VB + a.f2)))
                have HOUT4 := am_ (Kd.R_drew (R_offset HOUT3.out HD.out a.f1.toNat (.int .i64 (VB + a.f2))))
                have HB4 := am_ (below_drew (below_set (j := a.f1.toNat) (v := .int .i64 (VB + a.f2)) HB3.out hg1))
                have HK4 := am_ (blk_drew (blk_far HK3.out (p := ⟨g, a.f1.toNat, none⟩) gB (.int .i64 (VB + a.f2))))
                generalize (W3.setCell ⟨g, a.f1.toNat, none⟩ (.int .i64 (VB + a.f2))).drew = W4 at HO4 HOUT4 HB4 HK4 ⊢
                clear HK3 HO3 HOUT3 HB3
                rw [← HP1.out] at HO4
                have hk1 := (blk_cell HK4.out 1).trans rfl
                have hy := (Kd.R_celln 0 HO4.out a.f1 p1 q1).1
                rw [show rdOf 0 (posStep b2 a) a.f1 = VB + a.f2 from HP3.out] at hy
                by_cases c3 : 1000000000 < VB + a.f2
                · have c3b : decide (1000000000 < VB + a.f2) = true := decide_eq_true c3
                  have hend := passS_over (t := t) (more := more) HC1.out HC2N.out (by rw [HP3.out]; exact c3)
                  have HEND := am_ (HPN.out (HPS.out.symm.trans hend))
                  clear c3 hend
                  go_wp2
                  go_ret3
                  rw [HEND.out]
                  exact ⟨_, _, rfl, Kd.R_nil _ _ _ _ _, Kd.R_nil _ _ _ _ _, (fun k hk => by cases hk), (by repeat first | (with_reducible first | exact HB4.out | apply ba_ | apply bn_ | apply bd_) | exact HB4.out)⟩
                · have c3b : decide (1000000000 < VB + a.f2) = false := decide_eq_false c3
                  have htk := passS_take (t := t) (more := more) HC1.out HC2N.out (by rw [HP3.out]; exact c3)
                  have HPS1 := am_ (htk.symm.trans HPS.out)
                  have hok1 := posStep_ok HA.out HL.out HBD2.out HC2N.out (by rw [HP3.out]; exact c3)
                  have HBD3 := am_ hok1
                  have hms := miss_add (l := out2) (i := pre.length) HC1.out xs.length c'
                  have HMI := am_ hms
                  clear c3 htk hok1 hms
                  go_upto_region 16 with (fail)
                  clear hy hk1
                  go_upto_region 17 with ((with_reducible refine gate_builtin (b := .append) (xs := #[.tmp 67, .tmp 69]) rfl ?_); at_builtin; refine Kd.R_append (Kd.int .i64) (w0 := w) w.heap.size rfl (.tmp 67) (.tmp 69) 31 3 (.int .i64 0) 8 rfl Try.underlying31 infoI rfl (by decide) (by omega) (.slice Ao out2.length co) out2 (pre.length : Int) [.int .i64 pre.length] (fun _ => True) (fun _ => False) rfl rfl ?aP (fun _ hk => hk.elim) ?aF ?aO ?aB ?aS ?aL ?_; (case aP => exact rfl); (case aB => exact (by repeat first | (with_reducible first | exact HB4.out | apply ba_ | apply bn_ | apply bd_) | exact HB4.out)); (case aF => exact (fun _ _ => trivial)); (case aO => exact (by (with_reducible repeat first | apply ra_ | apply rn_ | apply rd_); exact HOUT4.out)); (case aS => exact (below_size (by repeat first | (with_reducible first | exact HB4.out | apply ba_ | apply bn_ | apply bd_) | exact HB4.out))); (case aL => omega); intro v1 w1 ho hb hg hat)
                  have HO5 := am_ (R_offrow (by (with_reducible repeat first | apply ra_ | apply rn_ | apply rd_); exact HO4.out) hg (fun k hk e => HD.out k e (by injection hk with hk; exact hk.symm)))
                  have HOUT5 := am_ ho
                  have HB5 := am_ hb
                  have HD5 := am_ (off_app HD.out (R_ownlt HO4.out rfl).2 hat)
                  clear ho hb hg hat HO4 HOUT4 HB4 HK4 HD
                  go_wp2
                  go_roundw
                  case rel => exact ⟨pre ++ [a], t, out2 ++ [(pre.length : Int)], posStep b2 a, true, HSN, by rw [len_snoc], rfl, ⟨by rw [len_snoc]; exact HPS1.out⟩, ⟨fun _ => by have := HMI.out; have := HLE.out; omega⟩, ⟨by have := HMI.out; have := HLE.out; omega⟩, ⟨by rw [List.length_append, List.length_singleton]; have := HMI.out; have := HLM.out; omega⟩, ⟨by rw [posStep_length]; exact HL.out⟩, HBD3, HD5, ⟨(by (with_reducible repeat first | apply ra_ | apply rn_ | apply rd_); exact HO5.out)⟩, ⟨(by (with_reducible repeat first | apply ra_ | apply rn_ | apply rd_); exact HOUT5.out)⟩, ⟨(by repeat first | (with_reducible first | exact HB5.out | apply ba_ | apply bn_ | apply bd_) | exact HB5.out)⟩⟩
                  case measure => simp [intOf]; omega
  · have hfin : setA xs p bal = ([], [], false) := by unfold setA; rw [if_neg (by rw [← hgc, ← hgb]; exact g)]
    rw [hfin]
    have HG := am_ (show (goodC xs p && goodB bal p) = false from by rw [← hgc, ← hgb]; cases gc <;> cases gb <;> first | rfl | exact absurd ⟨rfl, rfl⟩ g)
    have HA2 := am_ ha2
    clear hfin ha0 ha2 hgc hgb g hr0 hc0 hr2 hc2
    go_enter Try.func33, Try.ntmps33
    go_wp2_with fail
    refine (areBal_c _ _ xs _ _ _ bal _ HR0.out HC0.out HR2.out HA2.out hn hm).mono ?_
    rw [HG.out]
    rintro e w1 ⟨rfl, hb⟩
    have HB := am_ hb
    clear hb
    go_wp2
    go_ret3
    exact ⟨_, _, rfl, Kd.R_nil _ _ _ _ _, Kd.R_nil _ _ _ _ _, (fun k hk => by cases hk), (by repeat first | (with_reducible first | exact HB.out | apply ba_ | apply bn_ | apply bd_) | exact HB.out)⟩
theorem infoC : (Try.prog.info? 54).map (fun i => (i.zero, i.size, i.bytes)) = some (some (.agg #[(.int .i64 0), (.int .i64 0), (.int .i64 0)]), 3, 24) := by kernel_rfl
/-- A bit as the walk has it. -/
theorem all_succ (p : Nat → Prop) [DecidablePred p] (i : Nat) : decide (∀ j, j < i + 1 → p j) = (decide (∀ j, j < i → p j) && decide (p i)) := by
  rw [Bool.eq_iff_iff, Bool.and_eq_true, decide_eq_true_iff, decide_eq_true_iff, decide_eq_true_iff]
  refine ⟨fun h => ⟨fun j hj => h j (by omega), h i (by omega)⟩, fun h j hj => ?_⟩
  rcases Nat.lt_or_ge j i with q | q
  · exact h.1 j q
  · obtain rfl : j = i := by omega
    exact h.2
theorem bit_q (v i : Nat) (hv : v < 1048576) : Go.bits .and .i64 ((v : Int) / 2 ^ i) 1 = ((v / 2 ^ i % 2 : Nat) : Int) := by
  have e : (v : Int) / 2 ^ i = ((v / 2 ^ i : Nat) : Int) := by simp
  rw [e]
  have h := Nat.div_le_self v (2 ^ i)
  generalize v / 2 ^ i = q at h ⊢
  rw [i64_and1 _ (by omega) (by omega)]
  omega
theorem bit_one {v i : Nat} (hv : v < 1048576) (h : v / 2 ^ i % 2 = 1) : Go.bits .and .i64 ((v : Int) / 2 ^ i) 1 = 1 := by rw [bit_q v i hv, h]; rfl
theorem bit_zero {v i : Nat} (hv : v < 1048576) (h : ¬ v / 2 ^ i % 2 = 1) : Go.bits .and .i64 ((v : Int) / 2 ^ i) 1 = 0 := by rw [bit_q v i hv, show v / 2 ^ i % 2 = 0 from by omega]; rfl
set_option maxHeartbeats 8000000 in
set_option maxRecDepth 100000 in
theorem set_c (A0 : Option Addr) (c0 : Nat) (xs : List S54) (v : Nat) (w : World) (hr0 : Kd.C k54 w A0 xs.length xs) (hc0 : xs.length ≤ c0) (hn : xs.length ≤ 20) (hv : v < 1048576) :
    Calls Try.prog 66 #[.slice A0 xs.length c0, .int .i64 v] w fun e w' => ∃ v', e = .returned v' ∧ Kd.R k54 54 w' w.heap.size (fun _ => True) v' (pickF xs v) ∧ Below w.heap.size w w' := by
  have HR0 := am_ hr0
  have HC0 := am_ hc0
  clear hr0 hc0
  go_enter Try.func66, Try.ntmps66
  go_wp2_with ((with_reducible refine gate_dst (N := 7) rfl ?_); refine Kd.R_lit k54 w.heap.size 54 (w0 := w) ?hg (N := 7) ?hd (xs := []) (inner := []) (ok := fun _ => True) (okp := fun _ => True) ?hr ?hp (fun _ hk => hk) trivial (by repeat first | (with_reducible first | exact (Below.refl w.heap.size w) | apply ba_ | apply bn_ | apply bd_) | exact (Below.refl w.heap.size w)) (below_size (by repeat first | (with_reducible first | exact (Below.refl w.heap.size w) | apply ba_ | apply bn_ | apply bd_) | exact (Below.refl w.heap.size w))) (by simp) ?_; (case hd => rfl); (case hg => rfl); (case hr => first | (go_simp; done) | (go_simp; rfl)); (case hp => exact (Reps.none _ _)); intro v1 w1 ho hb hgr hnw)
  have HOUT := am_ ho
  have HB := am_ hb
  clear ho hb hgr hnw
  go_loopw [5, 6] (fun v5 v6 wr => ∃ (pre rest out : List S54), Aside0 (xs = pre ++ rest) ∧ v6 = .int .i64 pre.length ∧ Aside0 (out ++ pickF rest (v / 2 ^ pre.length) = pickF xs v) ∧ Aside0 (out.length ≤ pre.length) ∧ Aside0 (Kd.R k54 54 wr w.heap.size (fun _ => True) v5 out) ∧ Aside0 (Below w.heap.size w wr)) (fun _ v6 _ => xs.length - (intOf v6).toNat)
  case atStart => exact ⟨[], xs, [], ⟨rfl⟩, rfl, ⟨by simp⟩, ⟨by simp⟩, HOUT, HB⟩
  case round =>
    clear HOUT HB
    obtain ⟨pre, rest, out, HX, rfl, HP, HL, HOUT, HB⟩ := hrel
    cases rest with
    | nil =>
      have c : decide (pre.length < xs.length) = false := decide_eq_false (by have := len_nil HX.out; omega)
      go_wp2
      go_ret
      refine ⟨_, rfl, ?_, HB.out⟩
      rw [← HP.out, pickF, List.append_nil]
      exact HOUT.out
    | cons a t =>
      have hlt := len_cons HX.out
      have hpl : (pre.length : Int) < xs.length := by omega
      obtain ⟨ad, e0, hx0, hx1, hx2⟩ := at_T54 HR0.out (pre.length : Int) (by omega) hpl
      rw [rd_T54_at HX.out rfl] at hx0 hx1 hx2
      simp only [Int.toNat_natCast] at hx0 hx1 hx2
      cases e0
      replace hx0 := (HB.out.cell (World.block_lt_of_cell? w _ hx0)).trans hx0
      replace hx1 := (HB.out.cell (World.block_lt_of_cell? w _ hx1)).trans hx1
      replace hx2 := (HB.out.cell (World.block_lt_of_cell? w _ hx2)).trans hx2
      have c : decide (pre.length < xs.length) = true := decide_eq_true (by omega)
      have c' : pre.length < xs.length := by omega
      have hu : IntKind.u64.wrap (pre.length : Int) = (pre.length : Int) := u64_small _ (by omega) (by omega)
      have HSN := am_ (snoc HX.out)
      have hq : v / 2 ^ pre.length / 2 = v / 2 ^ (pre.length + 1) := (div_pow_succ v pre.length).symm
      have hol : out.length ≤ 20 := by have := HL.out; omega
      have hp := HP.out
      rw [pickF, hq] at hp
      clear hlt hq
      by_cases hb : v / 2 ^ pre.length % 2 = 1
      · have hbit := bit_one hv hb
        rw [if_pos hb, ← List.append_assoc] at hp
        have HP1 := am_ hp
        clear hp hb
        go_wp2_with ((with_reducible refine gate_builtin (b := .append) (xs := #[.tmp 20, .tmp 25]) rfl ?_); at_builtin; refine Kd.R_append k54 (w0 := w) w.heap.size rfl (.tmp 20) (.tmp 25) 25 54 (.agg #[(.int .i64 0), (.int .i64 0), (.int .i64 0)]) 24 rfl Try.underlying25 infoC rfl (by decide) (by omega) u5 out a [.int .i64 a.f0, .int .i64 a.f1, .int .i64 a.f2] (fun _ => True) (fun _ => False) rfl rfl ?aP (fun _ hk => hk.elim) ?aF ?aO ?aB ?aS ?aL ?_; (case aP => exact k54_mkM _ _ _ _); (case aB => exact (by repeat first | (with_reducible first | exact HB.out | apply ba_ | apply bn_ | apply bd_) | exact HB.out)); (case aF => exact (fun _ _ => trivial)); (case aO => exact (by (with_reducible repeat first | apply ra_ | apply rn_ | apply rd_); exact HOUT.out)); (case aS => exact (below_size (by repeat first | (with_reducible first | exact HB.out | apply ba_ | apply bn_ | apply bd_) | exact HB.out))); (case aL => omega); intro v1 w1 ho hb hg hat)
        go_roundw
        case rel => exact ⟨pre ++ [a], t, out ++ [a], HSN, by rw [len_snoc], ⟨by rw [List.length_append, List.length_singleton]; exact HP1.out⟩, ⟨by rw [List.length_append, List.length_append, List.length_singleton]; have := HL.out; simp; omega⟩, ⟨(by (with_reducible repeat first | apply ra_ | apply rn_ | apply rd_); exact ho)⟩, ⟨(by repeat first | (with_reducible first | exact hb | apply ba_ | apply bn_ | apply bd_) | exact hb)⟩⟩
        case measure => simp [intOf]; omega
      · have hbit := bit_zero hv hb
        rw [if_neg hb, List.nil_append] at hp
        have HP1 := am_ hp
        clear hp hb
        go_wp2
        go_roundw
        case rel => exact ⟨pre ++ [a], t, out, HSN, by rw [len_snoc], ⟨by rw [List.length_append, List.length_singleton]; exact HP1.out⟩, ⟨by rw [List.length_append, List.length_singleton]; have := HL.out; omega⟩, ⟨(by (with_reducible repeat first | apply ra_ | apply rn_ | apply rd_); exact HOUT.out)⟩, ⟨(by repeat first | (with_reducible first | exact HB.out | apply ba_ | apply bn_ | apply bd_) | exact HB.out)⟩⟩
        case measure => simp [intOf]; omega
set_option maxHeartbeats 4000000 in
set_option maxRecDepth 100000 in
theorem specPos_c (A0 : Option Addr) (c0 : Nat) (xs : List S54) (m : Nat) (w : World) (hr0 : Kd.C k54 w A0 xs.length xs) (hc0 : xs.length ≤ c0) (hm : 1 ≤ m ∧ m ≤ 8) (hn : xs.length ≤ 20) (hok : ∀ a ∈ xs, okC m a) :
    Calls Try.prog 50 #[.slice A0 xs.length c0, .int .i64 m] w fun e w' => ∃ v, e = .returned v ∧ (Kd.int .i64).R 3 w' w.heap.size (fun _ => True) v (posFold (List.replicate m 0) xs) ∧ Below w.heap.size w w' := by
  have HR0 := am_ hr0
  have HC0 := am_ hc0
  have HOK := am_ hok
  have m1 := hm.1
  have m2 := hm.2
  clear hr0 hc0 hok hm
  go_enter Try.func50, Try.ntmps50
  go_wp2_with ((with_reducible refine gate_dst (N := 8) rfl ?_); refine Kd.R_make (Kd.int .i64) w.heap.size 3 rfl (N := 8) rfl 31 _ _ rfl (m : Int) rfl rfl Try.underlying31 (.int .i64 0) 8 infoI rfl (by decide) (by omega) 0 (ok := fun _ => True) (okp := fun _ => True) rfl (fun _ hk => hk) trivial (by omega) (by omega) (by repeat first | (with_reducible first | exact (Below.refl w.heap.size w) | apply ba_ | apply bn_ | apply bd_) | exact (Below.refl w.heap.size w)) (below_size (by repeat first | (with_reducible first | exact (Below.refl w.heap.size w) | apply ba_ | apply bn_ | apply bd_) | exact (Below.refl w.heap.size w))) ?_; intro v1 w1 ho hb _ _)
  rw [Int.toNat_natCast] at ho
  obtain ⟨g, cap, hv, hg1, hg2, cells, hg3⟩ := Kd.R_form ho (by rw [List.length_replicate]; omega)
  rw [List.length_replicate] at hv
  subst hv
  have HO := am_ ho
  have HB := am_ hb
  clear ho hb hg2 hg3 cells
  go_loopw [6] (fun v6 wr => ∃ (pre rest : List S54) (out : List Int), Aside0 (xs = pre ++ rest) ∧ v6 = .int .i64 pre.length ∧ Aside0 (out.length = m) ∧ Aside0 (posFold out rest = posFold (List.replicate m 0) xs) ∧ Aside0 ((Kd.int .i64).R 3 wr w.heap.size (fun _ => True) (.slice (some ⟨g, 0, none⟩) m cap) out) ∧ Aside0 (Below w.heap.size w wr)) (fun v6 _ => xs.length - (intOf v6).toNat)
  case atStart => exact ⟨[], xs, List.replicate m 0, ⟨rfl⟩, rfl, ⟨List.length_replicate⟩, ⟨rfl⟩, HO, HB⟩
  case round =>
    clear HO
    obtain ⟨pre, rest, out, HX, rfl, HL, HP, HO, HB⟩ := hrel
    cases rest with
    | nil =>
      have c : decide (pre.length < xs.length) = false := decide_eq_false (by have := len_nil HX.out; omega)
      go_wp2
      go_ret
      exact ⟨_, rfl, by rw [← HP.out]; exact HO.out, HB.out⟩
    | cons a t =>
      have hlt := len_cons HX.out
      have hpl : (pre.length : Int) < xs.length := by omega
      have ha := HOK.out a (by rw [HX.out]; simp)
      have p0 := ha.1.1
      have q0 : a.f0 < (m : Int) := by have := ha.1.2; omega
      have p1 := ha.2.1.1
      have q1 : a.f1 < (m : Int) := by have := ha.2.1.2; omega
      obtain ⟨ad, e0, hx0, hx1, hx2⟩ := at_T54 HR0.out (pre.length : Int) (by omega) hpl
      rw [rd_T54_at HX.out rfl] at hx0 hx1 hx2
      simp only [Int.toNat_natCast] at hx0 hx1 hx2
      cases e0
      have X0 := am_ hx0
      have X1 := am_ hx1
      have X2 := am_ hx2
      replace hx0 := (HB.out.cell (World.block_lt_of_cell? w _ hx0)).trans hx0
      replace hx1 := (HB.out.cell (World.block_lt_of_cell? w _ hx1)).trans hx1
      replace hx2 := (HB.out.cell (World.block_lt_of_cell? w _ hx2)).trans hx2
      have c : decide (pre.length < xs.length) = true := decide_eq_true (by omega)
      have c' : pre.length < xs.length := by omega
      clear hlt
      have hy : wr.cell? ⟨g, a.f0.toNat, none⟩ = some (.int .i64 (rd out a.f0)) := (Kd.R_celln 0 HO.out a.f0 p0 q0).1
      have hf := (Kd.R_celln 0 HO.out a.f0 p0 q0).2
      go_upto_region 5 with (fail)
      go_region
      clear hy hf hx0 hx1 hx2
      have HO1 := am_ (Kd.R_putn HO.out a.f0 (wrap64 (rd out a.f0 - a.f2)))
      have HB1 := am_ (below_set (j := a.f0.toNat) (v := .int .i64 (wrap64 (rd out a.f0 - a.f2))) HB.out hg1)
      generalize wr.setCell ⟨g, a.f0.toNat, none⟩ (.int .i64 (wrap64 (rd out a.f0 - a.f2))) = wr1 at HO1 HB1 ⊢
      have hx0 := (HB1.out.cell (World.block_lt_of_cell? w _ X0.out)).trans X0.out
      have hx1 := (HB1.out.cell (World.block_lt_of_cell? w _ X1.out)).trans X1.out
      have hx2 := (HB1.out.cell (World.block_lt_of_cell? w _ X2.out)).trans X2.out
      have hy : wr1.cell? ⟨g, a.f1.toNat, none⟩ = some (.int .i64 (rd (out.set a.f0.toNat (wrap64 (rd out a.f0 - a.f2))) a.f1)) := (Kd.R_celln 0 HO1.out a.f1 p1 q1).1
      have hf := (Kd.R_celln 0 HO1.out a.f1 p1 q1).2
      go_upto_region 6 with (fail)
      go_region
      clear hy hf hx0 hx1 hx2
      go_wp2
      go_roundw
      case rel => exact ⟨pre ++ [a], t, posStep out a, ⟨snoc HX.out⟩, by rw [len_snoc], ⟨by rw [posStep_length]; exact HL.out⟩, ⟨HP.out⟩, ⟨Kd.R_putn (by (with_reducible repeat first | apply ra_ | apply rn_ | apply rd_); exact HO1.out) a.f1 _⟩, ⟨by repeat (first | exact HB1.out | apply below_alloc | apply pw_below_drewN | apply below_drew1 | refine below_set ?_ hg1)⟩⟩
      case measure => simp [intOf]; omega
theorem bitsI_q (q : Nat) (h : q < 1048576) : Go.bits .and .i64 (q : Int) 1 = ((q % 2 : Nat) : Int) := by
  rw [i64_and1 _ (by omega) (by omega)]; omega
set_option maxHeartbeats 8000000 in
set_option maxRecDepth 100000 in
theorem bitsOf_c (s n : Nat) (w : World) (hs : s < 2 ^ n) (hn : n ≤ 20) :
    Calls Try.prog 67 #[.int .i64 s] w fun e w' => ∃ v, e = .returned v ∧ (Kd.int .i64).R 3 w' w.heap.size (fun _ => True) v (blF n s 0) ∧ Below w.heap.size w w' := by
  have hs20 : s < 1048576 := Nat.lt_of_lt_of_le hs (Nat.le_trans (Nat.pow_le_pow_right (by decide) hn) (by decide))
  have HS := am_ hs
  clear hs
  go_enter Try.func67, Try.ntmps67
  go_wp2_with ((with_reducible refine gate_dst (N := 5) rfl ?_); refine Kd.R_lit (Kd.int .i64) w.heap.size 3 (w0 := w) ?hg (N := 5) ?hd (xs := []) (inner := []) (ok := fun _ => True) (okp := fun _ => True) ?hr ?hp (fun _ hk => hk) trivial (by repeat first | (with_reducible first | exact (Below.refl w.heap.size w) | apply ba_ | apply bn_ | apply bd_) | exact (Below.refl w.heap.size w)) (below_size (by repeat first | (with_reducible first | exact (Below.refl w.heap.size w) | apply ba_ | apply bn_ | apply bd_) | exact (Below.refl w.heap.size w))) (by simp) ?_; (case hd => rfl); (case hg => rfl); (case hr => first | (go_simp; done) | (go_simp; rfl)); (case hp => exact (Reps.none _ _)); intro v1 w1 ho hb hgr hnw)
  have HOUT := am_ ho
  have HB := am_ hb
  clear ho hb hgr hnw
  go_loopw [3, 4] (fun v3 v4 wr => ∃ (i : Nat) (out : List Int), v4 = .int .i64 i ∧ Aside0 (i ≤ n) ∧ Aside0 (out ++ blF (n - i) (s / 2 ^ i) i = blF n s 0) ∧ Aside0 (out.length ≤ i) ∧ Aside0 ((Kd.int .i64).R 3 wr w.heap.size (fun _ => True) v3 out) ∧ Aside0 (Below w.heap.size w wr)) (fun _ v4 _ => n - (intOf v4).toNat)
  case atStart => exact ⟨0, [], rfl, ⟨Nat.zero_le _⟩, ⟨by simp⟩, ⟨by simp⟩, HOUT, HB⟩
  case round =>
    clear HOUT HB
    obtain ⟨i, out, rfl, HI, HE, HL, HOUT, HB⟩ := hrel
    have hin := HI.out
    have hE := HE.out
    have hol : out.length ≤ 20 := by have := HL.out; omega
    have hqe : (s : Int) / 2 ^ i = ((s / 2 ^ i : Nat) : Int) := by simp
    have hq20 : s / 2 ^ i < 1048576 := Nat.lt_of_le_of_lt (Nat.div_le_self _ _) hs20
    have hqn : s / 2 ^ i ≠ 0 → i < n := fun h => by
      rcases Nat.lt_or_ge i n with q | q
      · exact q
      · exact absurd (Nat.div_eq_of_lt (Nat.lt_of_lt_of_le HS.out (Nat.pow_le_pow_right (by decide) q))) h
    have hsc : s / 2 ^ (i + 1) = s / 2 ^ i / 2 := div_pow_succ s i
    obtain ⟨q, hq⟩ : ∃ q, q = s / 2 ^ i := ⟨_, rfl⟩
    rw [← hq] at hqe hq20 hqn hsc hE
    clear hq
    by_cases hz : q = 0
    · subst hz
      rw [blF_zero, List.append_nil] at hE
      have HE1 := am_ hE
      clear hE hqn hsc hq20
      go_wp2
      go_ret
      rw [← HE1.out]
      exact ⟨_, rfl, (by (with_reducible repeat first | apply ra_ | apply rn_ | apply rd_); exact HOUT.out), (by repeat first | (with_reducible first | exact HB.out | apply ba_ | apply bn_ | apply bd_) | exact HB.out)⟩
    · have hin1 := hqn hz
      have hq0 : 0 < q := by omega
      have cq : decide (0 < q) = true := decide_eq_true hq0
      rw [show n - i = (n - (i + 1)) + 1 from by omega, blF, ← hsc] at hE
      have hbq := bitsI_q q hq20
      by_cases hbt : q % 2 = 1
      · rw [hbt] at hbq
        have hbit : Go.bits .and .i64 (q : Int) 1 = 1 := hbq
        rw [if_pos hbt, ← List.append_assoc] at hE
        have HE1 := am_ hE
        clear hE hbt hbq hqn hsc
        go_wp2_with ((with_reducible refine gate_builtin (b := .append) (xs := #[.tmp 17, .tmp 19]) rfl ?_); at_builtin; refine Kd.R_append (Kd.int .i64) (w0 := w) w.heap.size rfl (.tmp 17) (.tmp 19) 31 3 (.int .i64 0) 8 rfl Try.underlying31 infoI rfl (by decide) (by omega) u3 out (i : Int) [.int .i64 i] (fun _ => True) (fun _ => False) rfl rfl ?aP (fun _ hk => hk.elim) ?aF ?aO ?aB ?aS ?aL ?_; (case aP => exact rfl); (case aB => exact (by repeat first | (with_reducible first | exact HB.out | apply ba_ | apply bn_ | apply bd_) | exact HB.out)); (case aF => exact (fun _ _ => trivial)); (case aO => exact (by (with_reducible repeat first | apply ra_ | apply rn_ | apply rd_); exact HOUT.out)); (case aS => exact (below_size (by repeat first | (with_reducible first | exact HB.out | apply ba_ | apply bn_ | apply bd_) | exact HB.out))); (case aL => omega); intro v1 w1 ho hb hg hat)
        go_roundw
        case rel => exact ⟨i + 1, out ++ [(i : Int)], by go_num, ⟨hin1⟩, HE1, ⟨by rw [List.length_append, List.length_singleton]; have := HL.out; omega⟩, ⟨(by (with_reducible repeat first | apply ra_ | apply rn_ | apply rd_); exact ho)⟩, ⟨(by repeat first | (with_reducible first | exact hb | apply ba_ | apply bn_ | apply bd_) | exact hb)⟩⟩
        case measure => simp [intOf]; omega
      · rw [show q % 2 = 0 from by omega] at hbq
        have hbit : Go.bits .and .i64 (q : Int) 1 = 0 := hbq
        rw [if_neg hbt, List.nil_append] at hE
        have HE1 := am_ hE
        clear hE hbt hbq hqn hsc
        go_wp2
        go_roundw
        case rel => exact ⟨i + 1, out, by go_num, ⟨hin1⟩, HE1, ⟨by have := HL.out; omega⟩, ⟨(by (with_reducible repeat first | apply ra_ | apply rn_ | apply rd_); exact HOUT.out)⟩, ⟨(by repeat first | (with_reducible first | exact HB.out | apply ba_ | apply bn_ | apply bd_) | exact HB.out)⟩⟩
        case measure => simp [intOf]; omega
def Lmax_ren : Go.Shelf.Ren := ⟨fun | 113 => 59 | n => n, fun | 0 => 0 | 3 => 3 | 4 => 4 | 9 => 9 | 20 => 20 | 28 => 31 | n => n, fun | n => n⟩
theorem Lmax : Go.Proofs.Lays.n113 Try.prog Lmax_ren := {
  mixed := by kernel_rfl,
  f113 := Try.func59.trans (congrArg some (by kernel_rfl)),
  t0 := Try.underlying0,
  a0 := Try.isAgg0,
  z0 := Try.sizeOf0,
  v0 := Try.zeroValue0,
  t3 := Try.underlying3,
  a3 := Try.isAgg3,
  z3 := Try.sizeOf3,
  v3 := Try.zeroValue3,
  t4 := Try.underlying4,
  a4 := Try.isAgg4,
  z4 := Try.sizeOf4,
  v4 := Try.zeroValue4,
  t9 := Try.underlying9,
  a9 := Try.isAgg9,
  z9 := Try.sizeOf9,
  v9 := Try.zeroValue9,
  t20 := Try.underlying20,
  a20 := Try.isAgg20,
  z20 := Try.sizeOf20,
  v20 := Try.zeroValue20,
  t28 := Try.underlying31,
  a28 := Try.isAgg31,
  z28 := Try.sizeOf31,
  v28 := Try.zeroValue31 }

theorem max_c (g m cap : Nat) (xs : List Int) (w : World) (hr : (Kd.int .i64).C w (some ⟨g, 0, none⟩) m xs) (h0 : 0 < m) :
    Calls Try.prog 59 #[.slice (some ⟨g, 0, none⟩) m cap] w fun e w' => e = .returned (.int .i64 (Lib.maxOf xs)) ∧ w = w' := by
  have hl := Kd.C_len hr
  have h := Any.slices_Max_int Lmax g 0 m cap xs w h0 (by omega) (Kd.C_max hr) (cellsOfD hr)
  rw [List.take_of_length_le (by omega)] at h
  exact h.mono fun e w' ⟨he, hw⟩ => ⟨he, hw.symm⟩
def Lmin_ren : Go.Shelf.Ren := ⟨fun | 114 => 58 | n => n, fun | 0 => 0 | 3 => 3 | 4 => 4 | 9 => 9 | 20 => 20 | 28 => 31 | n => n, fun | n => n⟩
theorem Lmin : Go.Proofs.Lays.n114 Try.prog Lmin_ren := {
  mixed := by kernel_rfl,
  f114 := Try.func58.trans (congrArg some (by kernel_rfl)),
  t0 := Try.underlying0,
  a0 := Try.isAgg0,
  z0 := Try.sizeOf0,
  v0 := Try.zeroValue0,
  t3 := Try.underlying3,
  a3 := Try.isAgg3,
  z3 := Try.sizeOf3,
  v3 := Try.zeroValue3,
  t4 := Try.underlying4,
  a4 := Try.isAgg4,
  z4 := Try.sizeOf4,
  v4 := Try.zeroValue4,
  t9 := Try.underlying9,
  a9 := Try.isAgg9,
  z9 := Try.sizeOf9,
  v9 := Try.zeroValue9,
  t20 := Try.underlying20,
  a20 := Try.isAgg20,
  z20 := Try.sizeOf20,
  v20 := Try.zeroValue20,
  t28 := Try.underlying31,
  a28 := Try.isAgg31,
  z28 := Try.sizeOf31,
  v28 := Try.zeroValue31 }

theorem min_c (g m cap : Nat) (xs : List Int) (w : World) (hr : (Kd.int .i64).C w (some ⟨g, 0, none⟩) m xs) (h0 : 0 < m) :
    Calls Try.prog 58 #[.slice (some ⟨g, 0, none⟩) m cap] w fun e w' => e = .returned (.int .i64 (Lib.minOf xs)) ∧ w = w' := by
  have hl := Kd.C_len hr
  have h := Any.slices_Min_int Lmin g 0 m cap xs w h0 (by omega) (Kd.C_max hr) (cellsOfD hr)
  rw [List.take_of_length_le (by omega)] at h
  exact h.mono fun e w' ⟨he, hw⟩ => ⟨he, hw.symm⟩
end Go.Proofs.Ytaobdjdmmhglaaa.O
