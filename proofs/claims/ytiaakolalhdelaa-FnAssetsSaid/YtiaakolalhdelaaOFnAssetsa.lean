/- Walks of our own, a part of those for the law FnAssets: each function's contract in plain Lean. No condition beyond the bounds that each contract names. -/
import Derived.Test.YtiaakolalhdelaaPureFnAssets
import Derived.Shelf.SlicesE.IndexFunc
import Derived.Shelf.SlLaysH
namespace Go.Proofs.Ytiaakolalhdelaa.O
open Go.RowKit Go.Proofs.YtiaakolalhdelaaW.PrintWords Go.Proofs.YtiaakolalhdelaaW.PrintLast Go.Proofs.YtiaakolalhdelaaW.PrintMore Go.Proofs.Ytiaakolalhdelaa.PL17A Go.Proofs.Ytiaakolalhdelaa.EvKit Go.Proofs.Ytiaakolalhdelaa.Pure
set_option linter.unusedVariables false
set_option linter.unusedSimpArgs false
attribute [local go_sem] max2_int min2_int max_two min_two max_three min_three max_four min_four
theorem am_ {p : Prop} (h : p) : Aside0 p := ⟨h⟩
theorem db_ {w w' : World} (h : Drawn0 w w') : Below w.heap.size w w' := Drawn0.below h
/-- A number of rounds at which a printed function answers. -/
theorem roundsOf {α : Type} {g : Nat → Option α} {r : α} (h : Ev g r) : ∃ k, g k = some r := Ev.rounds h
theorem cellsOf {w : World} {b o : Nat} {xs : List Int} (h : (Kd.int .i64).C w (some ⟨b, o, none⟩) xs.length xs) : ∀ j, j < xs.length → w.cell? ⟨b, o + j, none⟩ = some (.int .i64 xs[j]!) := by
  intro j hj
  obtain ⟨ad, e, hc⟩ := Kd.at_int h (j : Int) (by omega) (by omega)
  injection e with e
  subst e
  rw [add_at] at hc
  rw [Int.toNat_natCast] at hc
  rw [hc, rd, Int.toNat_natCast, List.getD_eq_getElem?_getD, List.getElem?_eq_getElem hj, List.getElem!_eq_getElem?_getD, List.getElem?_eq_getElem hj]
  rfl
/-- Between two numbers. -/
def Iv (a b : Nat) (k : Nat) : Prop := a ≤ k ∧ k < b
theorem R_iv {α : Type} {d : Kd α} {e base : Nat} {ok : Nat → Prop} {w : World} {v : Value} {xs : List α} (h : d.R e w base ok v xs) : d.R e w base (Iv base w.heap.size) v xs := Kd.R_mono (Kd.R_bound h) (fun _ hk => ⟨hk.2.1, hk.2.2.1⟩)
/-- Where a row of one's own that is not empty begins. -/
theorem R_head {α : Type} {d : Kd α} {e base : Nat} {ok : Nat → Prop} {w : World} {A : Option Addr} {n c : Nat} {xs : List α} (h : d.R e w base ok (.slice A n c) xs) (hp : 0 < xs.length) : ∃ b, A = some ⟨b, 0, none⟩ := by
  obtain ⟨g, cap, e1, _⟩ := Kd.R_form h hp
  injection e1 with e1
  exact ⟨g, e1⟩
theorem R_ivw {α : Type} {d : Kd α} {e base a b : Nat} {ok : Nat → Prop} {w : World} {v : Value} {xs : List α} (h : d.R e w base ok v xs) (ha : a ≤ base) (hb : b ≤ base) : d.R e w b (Iv a w.heap.size) v xs := Kd.R_lower (Kd.R_mono (Kd.R_bound h) (fun _ hk => ⟨Nat.le_trans ha hk.2.1, hk.2.2.1⟩)) hb
/-- A row whose elements hold no rows lies in its own block alone. -/
theorem R_flat {α : Type} {d : Kd α} {e base : Nat} {ok ok' : Nat → Prop} {w : World} {v : Value} {xs : List α} (hf : ∀ (w : World) (b : Nat) (p q : Nat → Prop) x cs, d.M w b p x cs → d.M w b q x cs) (h : d.R e w base ok v xs) (h0 : ∀ k, v.ownBlock = some k → ok' k) : d.R e w base ok' v xs := ⟨h0, h.2.imp_ (fun _ _ hp => hf _ _ _ _ _ _ hp)⟩
theorem flat_int (w : World) (b : Nat) (p q : Nat → Prop) (x : Int) (cs : List Value) (h : (Kd.int .i64).M w b p x cs) : (Kd.int .i64).M w b q x cs := h
theorem cellsOfD {w : World} {b o m : Nat} {xs : List Int} (h : (Kd.int .i64).C w (some ⟨b, o, none⟩) m xs) : ∀ j, j < xs.length → w.cell? ⟨b, o + j, none⟩ = some (.int .i64 (xs.getD j 0)) := by
  intro j hj
  have hl := Kd.C_len h
  obtain ⟨ad, e, hc⟩ := Kd.at_int h (j : Int) (by omega) (by omega)
  injection e with e
  subst e
  rw [add_at, Int.toNat_natCast] at hc
  exact hc
theorem R_C {α : Type} {d : Kd α} {e base : Nat} {ok : Nat → Prop} {w : World} {A : Option Addr} {n c : Nat} {xs : List α} (h : d.R e w base ok (.slice A n c) xs) : d.C w A n xs := by
  obtain ⟨rfl, _, hc⟩ := Kd.R_reads' h
  exact hc
theorem R_cap {α : Type} {d : Kd α} {e base : Nat} {ok : Nat → Prop} {w : World} {A : Option Addr} {n c : Nat} {xs : List α} (h : d.R e w base ok (.slice A n c) xs) : n ≤ c := (Kd.R_reads' h).2.1
theorem R_same {α : Type} {d : Kd α} {e base : Nat} {ok : Nat → Prop} {w w1 : World} {v : Value} {xs : List α} (h : d.R e w base ok v xs) (hg : w.grownBy w1 none) : d.R e w1 base ok v xs := Kd.R_grown h hg (fun _ _ e => by cases e)
theorem R_block {α : Type} {d : Kd α} {e base g n c : Nat} {ok : Nat → Prop} {w : World} {xs : List α} (h : d.R e w base ok (.slice (some ⟨g, 0, none⟩) n c) xs) (hp : 0 < n) : ∃ cells, w.heap[g]? = some (.cells cells e (0, 0)) := by
  obtain ⟨e1, _, _⟩ := Kd.R_reads' h
  obtain ⟨g', cap, e2, _, _, cells, h3⟩ := Kd.R_form h (by omega)
  injection e2 with e2 _ _
  injection e2 with e2
  injection e2 with e2
  subst e2
  exact ⟨cells, h3⟩
theorem ba_ {w W : World} (h : Below w.heap.size w W) (o : Obj) : Below w.heap.size w (W.alloc o) := below_alloc h o
theorem bn_ {B : Nat} {w W : World} (h : Below B w W) (n : Nat) : Below B w (W.drewN n) := pw_below_drewN h n
theorem bd_ {B : Nat} {w W : World} (h : Below B w W) : Below B w W.drew := below_drew1 h
theorem ca_ {α : Type} {d : Kd α} {w : World} {xs : List α} {A : Option Addr} {n : Nat} (h : d.C w A n xs) (o : Obj) : d.C (w.alloc o) A n xs := Kd.C_alloc h o
theorem cn_ {α : Type} {d : Kd α} {w : World} {xs : List α} {A : Option Addr} {n : Nat} (h : d.C w A n xs) (m : Nat) : d.C (w.drewN m) A n xs := Kd.C_drewN h m
theorem cd_ {α : Type} {d : Kd α} {w : World} {xs : List α} {A : Option Addr} {n : Nat} (h : d.C w A n xs) : d.C w.drew A n xs := Kd.C_drew h
theorem ra_ {α : Type} {d : Kd α} {w : World} {xs : List α} {e : TypeId} {base : Nat} {ok : Nat → Prop} {v : Value} (h : d.R e w base ok v xs) (o : Obj) : d.R e (w.alloc o) base ok v xs := Kd.R_alloc h o
theorem rn_ {α : Type} {d : Kd α} {w : World} {xs : List α} {e : TypeId} {base : Nat} {ok : Nat → Prop} {v : Value} (h : d.R e w base ok v xs) (m : Nat) : d.R e (w.drewN m) base ok v xs := Kd.R_drewN h m
theorem rd_ {α : Type} {d : Kd α} {w : World} {xs : List α} {e : TypeId} {base : Nat} {ok : Nat → Prop} {v : Value} (h : d.R e w base ok v xs) : d.R e w.drew base ok v xs := Kd.R_drew h
theorem ka_ {w : World} {g : Nat} {o : Obj} (h : w.heap[g]? = some o) (o' : Obj) : (w.alloc o').heap[g]? = some o := blk_alloc h o'
theorem kd_ {w : World} {g : Nat} {o : Obj} (h : w.heap[g]? = some o) : w.drew.heap[g]? = some o := blk_drew h
theorem kn_ {w : World} {g : Nat} {o : Obj} (h : w.heap[g]? = some o) (n : Nat) : (w.drewN n).heap[g]? = some o := blk_drewN h n
theorem kf_ {w : World} {g : Nat} {t : TypeId} {cs : Array Value} (h : w.heap[g]? = some (.cells cs t (0, 0))) {p : Addr} (hp : g ≠ p.block) (u : Value) : (w.setCell p u).heap[g]? = some (.cells cs t (0, 0)) := blk_far h hp u
theorem own_ne {α : Type} {k : Kd α} {e base : Nat} {w : World} {ok : Nat → Prop} {v : Value} {xs : List α} (h : k.R e w base ok v xs) {g t : Nat} {cs : Array Value} (hb : w.heap[g]? = some (.cells cs t (0, 0))) (ht : e ≠ t) : some g ≠ v.ownBlock := by
  intro he
  obtain ⟨inner, ho⟩ := Kd.R_own h
  obtain ⟨cells, hc⟩ := own_typed ho g he.symm
  rw [hb] at hc
  injection hc with h1
  injection h1 with _ h2
  exact ht h2.symm
/-- The cursor of the draws, in its box at g: the code that it reads came in, its place is at most B. -/
def Cur (w0 w : World) (g : Nat) (code : List Int) (B : Int) : Prop :=
  w0.heap.size ≤ g ∧ (∀ x ∈ code, 0 ≤ x ∧ x ≤ 255) ∧ ∃ (A : Option Addr) (c : Nat) (p s : Int), w.heap[g]? = some (.cells #[.slice A code.length c, .int .i64 p, .int .u64 s] 78 (0, 0)) ∧ (Kd.int .u8).C w0 A code.length code ∧ 0 ≤ p ∧ p ≤ B
theorem Cur.blk {w0 w : World} {g : Nat} {code : List Int} {B : Int} (h : Cur w0 w g code B) : ∃ cs, w.heap[g]? = some (.cells cs 78 (0, 0)) := by
  obtain ⟨_, _, A, c, p, s, h1, _⟩ := h
  exact ⟨_, h1⟩
theorem Cur.ge {w0 w : World} {g : Nat} {code : List Int} {B : Int} (h : Cur w0 w g code B) : w0.heap.size ≤ g := h.1
theorem Cur.lt {w0 w : World} {g : Nat} {code : List Int} {B : Int} (h : Cur w0 w g code B) : g < w.heap.size := by
  obtain ⟨cs, h1⟩ := h.blk
  exact blk_lt h1
theorem Cur.step {w0 w w1 : World} {g : Nat} {code : List Int} {B B' : Int} (h : Cur w0 w g code B) (hg : w1.heap[g]? = w.heap[g]?) (hb : B ≤ B') : Cur w0 w1 g code B' := by
  obtain ⟨h0, h1, A, c, p, s, h2, h3, h4, h5⟩ := h
  exact ⟨h0, h1, A, c, p, s, by rw [hg]; exact h2, h3, h4, by omega⟩
theorem Cur.below {w0 w w1 : World} {g : Nat} {code : List Int} {B : Int} (h : Cur w0 w g code B) (hb : Below w.heap.size w w1) : Cur w0 w1 g code B := by
  obtain ⟨h0, h1, A, c, p, s, h2, h3⟩ := h
  exact ⟨h0, h1, A, c, p, s, blk_below h2 hb, h3⟩
theorem Cur.drew {w0 w : World} {g : Nat} {code : List Int} {B : Int} (h : Cur w0 w g code B) : Cur w0 w.drew g code B := h
theorem Cur.drewN {w0 w : World} {g : Nat} {code : List Int} {B : Int} (h : Cur w0 w g code B) (n : Nat) : Cur w0 (w.drewN n) g code B := h
theorem Cur.alloc {w0 w : World} {g : Nat} {code : List Int} {B : Int} (h : Cur w0 w g code B) (o : Obj) : Cur w0 (w.alloc o) g code B := h.below (below_alloc (Below.refl _ _) o)
theorem Cur.new {w0 w : World} {A : Option Addr} {c : Nat} {code : List Int} (hb : Below w0.heap.size w0 w) (hc : (Kd.int .u8).C w0 A code.length code) (hx : ∀ x ∈ code, 0 ≤ x ∧ x ≤ 255) : Cur w0 (w.alloc (.cells #[.slice A code.length c, .int .i64 0, .int .u64 0] 78 (0, 0))) w.heap.size code 0 := ⟨below_size hb, hx, A, c, 0, 0, blk_new w _, hc, by decide, by decide⟩
/-- A row of one's own keeps what it holds while the cursor goes on. -/
theorem R_draw {α : Type} {d : Kd α} {e base : Nat} {w0 w w1 : World} {v : Value} {xs : List α} {g : Nat} {code : List Int} {B : Int} {ok : Nat → Prop} (hf : ∀ (w : World) (b : Nat) (p q : Nat → Prop) x cs, d.M w b p x cs → d.M w b q x cs) (h : d.R e w base ok v xs) (hI : Cur w0 w g code B) (ht : e ≠ 78) (hk : KeepBut w w1 g none) : d.R e w1 base (fun _ => True) v xs := by
  obtain ⟨cs, hb⟩ := hI.blk
  have h1 : d.R e w base (fun k => k ≠ g) v xs := R_flat hf h (fun k hk he => own_ne h hb ht (by rw [hk, he]))
  exact Kd.R_mono (Kd.R_keep h1 hk (fun _ h => h)) (fun _ _ => trivial)
theorem R_ne {α : Type} {d : Kd α} {e base : Nat} {w0 w : World} {A : Option Addr} {n c : Nat} {xs : List α} {g : Nat} {code : List Int} {B : Int} {ok : Nat → Prop} (h : d.R e w base ok (.slice A n c) xs) (hI : Cur w0 w g code B) (ht : e ≠ 78) : ∀ ad, A = some ad → 0 < n → ad.block ≠ g := by
  intro ad he hn hg
  obtain ⟨cs, hb⟩ := hI.blk
  subst he
  obtain ⟨e1, _, _⟩ := Kd.R_reads' h
  obtain ⟨b, cap, e2, _⟩ := Kd.R_form h (by omega)
  injection e2 with e2
  injection e2 with e2
  subst e2
  obtain ⟨cells, hc⟩ := R_block h hn
  rw [show b = g from hg, hb] at hc
  injection hc with h1
  injection h1 with _ h2
  exact ht h2.symm
theorem seed_bd (x : Int) : 0 ≤ Go.bits .and .u64 (IntKind.u64.wrap x / 1099511627776) 255 ∧ Go.bits .and .u64 (IntKind.u64.wrap x / 1099511627776) 255 ≤ 255 := by
  have hw : ∀ n : Int, 0 ≤ n → n < 2 ^ 64 → IntKind.u64.wrap n = n := fun n h1 h2 => by
    have e : IntKind.u64.wrap n = n % 18446744073709551616 := by simp [IntKind.wrap, IntKind.bits, IntKind.signed]
    rw [e]; omega
  have e : IntKind.u64.wrap x = x % 18446744073709551616 := by simp [IntKind.wrap, IntKind.bits, IntKind.signed]
  rw [e]
  obtain ⟨y, hy⟩ : ∃ y, y = x % 18446744073709551616 / 1099511627776 := ⟨_, rfl⟩
  have hb : 0 ≤ y ∧ y < 2 ^ 64 := by omega
  rw [← hy]
  have h := Go.bits_mask .u64 64 (by decide) hw 8 (by decide) y hb.1 hb.2
  have h2 : Go.bits .and .u64 y 255 = y % 256 := h
  rw [h2]; omega
theorem wrap_small (v : Int) (h : 0 ≤ v ∧ v ≤ 255) : IntKind.i64.wrap v = v := IntWalk.i64_in _ (by omega)
set_option maxHeartbeats 8000000 in
set_option maxRecDepth 100000 in
theorem next_c (g : Nat) (code : List Int) (B : Int) (w0 w : World) (hI : Cur w0 w g code B) (hB : Below w0.heap.size w0 w) (hb : B ≤ 1000000000000) :
    Calls Try.prog 75 #[.pointer (some ⟨g, 0, none⟩)] w fun e w' => ∃ v, e = .returned (.int .i64 v) ∧ (0 ≤ v ∧ v ≤ 255) ∧ Cur w0 w' g code (B + 1) ∧ Below w0.heap.size w0 w' ∧ KeepBut w w' g none := by
  obtain ⟨hge, hx, A, c, p, s, hg, hc, hp0, hp1⟩ := hI
  have BKg := am_ hg
  have GEg := am_ hge
  have HX := am_ hx
  have HC := am_ hc
  have HB := am_ hB
  have HK := am_ (KeepBut.refl w g none)
  have hbd : p ≤ 1000000000000 := by omega
  have HP := am_ (show p + 1 ≤ B + 1 from by omega)
  clear hg hge hx hc hB hp1
  by_cases cl : p < code.length
  · have c1 : decide (p < (code.length : Int)) = true := decide_eq_true cl
    have c2 : decide (p + 1 ≤ (code.length : Int)) = true := decide_eq_true (by omega)
    obtain ⟨ad, e1, hcx⟩ := Kd.at_int HC.out p hp0 cl
    cases e1
    replace hcx := HB.out.cell (World.block_lt_of_cell? w0 _ hcx) |>.trans hcx
    obtain ⟨x, hxe⟩ : ∃ x, x = rd code p := ⟨_, rfl⟩
    have hxb : 0 ≤ x ∧ x ≤ 255 := by
      rw [hxe, rd, List.getD_eq_getElem?_getD, List.getElem?_eq_getElem (by omega)]
      exact HX.out _ (List.getElem_mem _)
    rw [← hxe] at hcx
    have hwx := wrap_small x hxb
    have HXB := am_ hxb
    have p1 : (0 ≤ p) = True := eq_true hp0
    have p2 : (p < (code.length : Int)) = True := eq_true cl
    clear hxe hxb
    have yg_0 : w.cell? ⟨g, 0, none⟩ = some (.slice (some ad) code.length c) := (blk_cell BKg.out 0).trans rfl; have fg_0 := blk_frozen BKg.out 0; have yg_1 : w.cell? ⟨g, 1, none⟩ = some (.int .i64 p) := (blk_cell BKg.out 1).trans rfl; have fg_1 := blk_frozen BKg.out 1; have yg_2 : w.cell? ⟨g, 2, none⟩ = some (.int .u64 s) := (blk_cell BKg.out 2).trans rfl; have fg_2 := blk_frozen BKg.out 2
    go_enter Try.func75, Try.ntmps75
    go_wp2
    repeat (go_quiet (fail); try go_wp2)
    go_ret
    exact ⟨x, rfl, HXB.out, ⟨GEg.out, HX.out, some ad, c, p + 1, _, (by (with_reducible repeat first | refine kn_ ?_ _ | refine kd_ ?_ | refine ka_ ?_ _); refine blk_put (cs := #[.slice (some ad) code.length c, .int .i64 (p + 1), .int .u64 s]) ?_ 2 _ rfl; (with_reducible repeat first | refine kn_ ?_ _ | refine kd_ ?_ | refine ka_ ?_ _); refine blk_put (cs := #[.slice (some ad) code.length c, .int .i64 p, .int .u64 s]) ?_ 1 _ rfl; (with_reducible repeat first | refine kn_ ?_ _ | refine kd_ ?_ | refine ka_ ?_ _); exact BKg.out), HC.out, by omega, HP.out⟩, (by repeat first | (with_reducible first | exact HB.out | apply ba_ | apply bn_ | apply bd_ | refine below_set ?_ GEg.out) | exact HB.out), by repeat (first | (with_reducible first | exact HK.out | apply KeepBut.set_ | apply keep_drewN | apply keep_drew | apply keep_alloc) | exact HK.out)⟩
  · have c1 : decide (p < (code.length : Int)) = false := decide_eq_false cl
    have c2 : decide (p + 1 ≤ (code.length : Int)) = false := decide_eq_false (by omega)
    have yg_0 : w.cell? ⟨g, 0, none⟩ = some (.slice A code.length c) := (blk_cell BKg.out 0).trans rfl; have fg_0 := blk_frozen BKg.out 0; have yg_1 : w.cell? ⟨g, 1, none⟩ = some (.int .i64 p) := (blk_cell BKg.out 1).trans rfl; have fg_1 := blk_frozen BKg.out 1; have yg_2 : w.cell? ⟨g, 2, none⟩ = some (.int .u64 s) := (blk_cell BKg.out 2).trans rfl; have fg_2 := blk_frozen BKg.out 2
    go_enter Try.func75, Try.ntmps75
    go_wp2
    repeat (go_quiet (fail); try go_wp2)
    go_ret
    refine ⟨_, rfl, ?_, ⟨GEg.out, HX.out, A, c, p + 1, _, (by (with_reducible repeat first | refine kn_ ?_ _ | refine kd_ ?_ | refine ka_ ?_ _); refine blk_put (cs := #[.slice A code.length c, .int .i64 (p + 1), .int .u64 s]) ?_ 2 _ rfl; (with_reducible repeat first | refine kn_ ?_ _ | refine kd_ ?_ | refine ka_ ?_ _); refine blk_put (cs := #[.slice A code.length c, .int .i64 p, .int .u64 s]) ?_ 1 _ rfl; (with_reducible repeat first | refine kn_ ?_ _ | refine kd_ ?_ | refine ka_ ?_ _); exact BKg.out), HC.out, by omega, HP.out⟩, (by repeat first | (with_reducible first | exact HB.out | apply ba_ | apply bn_ | apply bd_ | refine below_set ?_ GEg.out) | exact HB.out), by repeat (first | (with_reducible first | exact HK.out | apply KeepBut.set_ | apply keep_drewN | apply keep_drew | apply keep_alloc) | exact HK.out)⟩
    have h := seed_bd (IntKind.u64.wrap (IntKind.u64.wrap (s * 6364136223846793005)) + 902902)
    rw [wrapId (by omega)]
    exact h
/-- A row of numbers, as it lies. -/
def numsA (ls : List Int) : Array Value := (ls.map (fun x => Value.int .i64 x)).toArray
theorem C_blk {w : World} {b : Nat} {ls : List Int} (h : w.heap[b]? = some (.cells (numsA ls) 3 (0, 0))) {j : Nat} (hj : j < ls.length) : w.cell? ⟨b, j, none⟩ = some (.int .i64 (ls.getD j 0)) := by
  refine (blk_cell h j).trans ?_
  rw [numsA, List.getElem?_toArray, List.getElem?_map, List.getD_eq_getElem?_getD, List.getElem?_eq_getElem hj]
  rfl
theorem blk_ne {w : World} {b g t t' : Nat} {cs cs' : Array Value} (h : w.heap[b]? = some (.cells cs t (0, 0))) (h' : w.heap[g]? = some (.cells cs' t' (0, 0))) (ht : t ≠ t') : b ≠ g := by
  rintro rfl
  rw [h] at h'
  injection h' with h'
  injection h' with _ h'
  exact ht h'
/-- What a draw leaves: the cursor, what lay before, and all but the cursor's block. -/
def Dr (w0 w w' : World) (g : Nat) (code : List Int) (B : Int) : Prop := Cur w0 w' g code B ∧ Below w0.heap.size w0 w' ∧ KeepBut w w' g none
theorem Dr.refl {w0 w : World} {g : Nat} {code : List Int} {B B' : Int} (h : Cur w0 w g code B) (hb : Below w0.heap.size w0 w) (hB : B ≤ B') : Dr w0 w w g code B' := ⟨h.step rfl hB, hb, KeepBut.refl w g none⟩
theorem Dr.trans {w0 w w1 w2 : World} {g : Nat} {code : List Int} {B B' : Int} (h : Dr w0 w w1 g code B) (k : Dr w0 w1 w2 g code B') : Dr w0 w w2 g code B' := ⟨k.1, k.2.1, h.2.2.trans k.2.2 (.inl rfl)⟩
theorem Dr.more {w0 w w1 : World} {g : Nat} {code : List Int} {B B' : Int} (h : Dr w0 w w1 g code B) (hB : B ≤ B') : Dr w0 w w1 g code B' := ⟨h.1.step rfl hB, h.2⟩
set_option maxHeartbeats 8000000 in
set_option maxRecDepth 100000 in
theorem pick_c (n : Int) (hn : n ≤ 200) (g : Nat) (code : List Int) (B : Int) (w0 w : World) (hI : Cur w0 w g code B) (hB : Below w0.heap.size w0 w) (hb : B ≤ 900000000000) :
    Calls Try.prog 65 #[.pointer (some ⟨g, 0, none⟩), .int .i64 n] w fun e w' => ∃ v, e = .returned (.int .i64 v) ∧ (0 ≤ v ∧ (1 ≤ n → v < n)) ∧ Dr w0 w w' g code (B + 1) := by
  by_cases h1 : n ≤ 1
  · have HD := am_ (Dr.refl hI hB (show B ≤ B + 1 by omega))
    have c1 : decide (n ≤ 1) = true := decide_eq_true h1
    clear hI hB
    go_enter Try.func65, Try.ntmps65
    go_wp2
    go_ret
    exact ⟨0, rfl, ⟨by omega, by omega⟩, HD.out⟩
  · have c1 : decide (n ≤ 1) = false := decide_eq_false h1
    have c2 : decide (200 < n) = false := decide_eq_false (by omega)
    have HN := am_ (next_c g code B w0 w hI hB (by omega))
    have hnz : ¬ n = 0 := by omega
    clear hI hB
    go_enter Try.func65, Try.ntmps65
    go_wp2_with fail
    refine HN.out.mono ?_
    rintro e w1 ⟨x, rfl, hx, hc, hb1, hk⟩
    have HD := am_ (show Dr w0 w w1 g code (B + 1) from ⟨hc, hb1, hk⟩)
    have hme : x.tmod n = x % n := Int.tmod_eq_emod_of_nonneg hx.1
    have hm : 0 ≤ x % n ∧ x % n < n := ⟨Int.emod_nonneg _ hnz, Int.emod_lt_of_pos _ (by omega)⟩
    have HM := am_ hm
    have hw : wrap64 (x % n) = x % n := wrapId (by omega)
    have x0 := hx.1
    clear hc hb1 hk hm
    go_wp2
    go_ret
    exact ⟨_, rfl, ⟨HM.out.1, fun _ => HM.out.2⟩, HD.out⟩
set_option maxHeartbeats 8000000 in
set_option maxRecDepth 100000 in
theorem among_c (ls : List Int) (b n cap : Nat) (hn : 1 ≤ n ∧ n ≤ ls.length ∧ n ≤ 200) (g : Nat) (code : List Int) (B : Int) (w0 w : World) (hI : Cur w0 w g code B) (hB : Below w0.heap.size w0 w) (hb : B ≤ 900000000000) (hl : w.heap[b]? = some (.cells (numsA ls) 3 (0, 0))) :
    Calls Try.prog 64 #[.pointer (some ⟨g, 0, none⟩), .slice (some ⟨b, 0, none⟩) n cap] w fun e w' => ∃ v, e = .returned (.int .i64 v) ∧ v ∈ ls ∧ Dr w0 w w' g code (B + 1) := by
  obtain ⟨cs, hcs⟩ := hI.blk
  have hne := blk_ne hl hcs (by decide)
  have HP := am_ (pick_c (n : Int) (by omega) g code B w0 w hI hB hb)
  have HL := am_ hl
  have n1 := hn.1
  have n2 := hn.2.1
  clear hcs hI hB hl hn
  go_enter Try.func64, Try.ntmps64
  go_wp2_with fail
  refine HP.out.mono ?_
  rintro e w1 ⟨v, rfl, ⟨v0, v1⟩, hd⟩
  have HD := am_ hd
  have v2 := v1 (by omega)
  obtain ⟨k, rfl⟩ : ∃ k : Nat, v = k := ⟨v.toNat, by omega⟩
  have hkn : k < ls.length := by omega
  have hy : w1.cell? ⟨b, k, none⟩ = some (.int .i64 (ls.getD k 0)) := C_blk (hd.2.2.blk HL.out hne (by simp)) hkn
  obtain ⟨x, hx⟩ : ∃ x, x = ls.getD k 0 := ⟨_, rfl⟩
  have HX := am_ (show x ∈ ls from by rw [hx, List.getD_eq_getElem?_getD, List.getElem?_eq_getElem hkn]; exact List.getElem_mem hkn)
  rw [← hx] at hy
  have tk : (k : Int).toNat = k := Int.toNat_natCast k
  clear hd hx v1 hkn
  go_wp2
  go_ret
  exact ⟨x, rfl, HX.out, HD.out⟩
theorem Dr.cur {w0 w w1 : World} {g : Nat} {code : List Int} {B : Int} (h : Dr w0 w w1 g code B) : Cur w0 w1 g code B := h.1
theorem Dr.below {w0 w w1 : World} {g : Nat} {code : List Int} {B : Int} (h : Dr w0 w w1 g code B) : Below w0.heap.size w0 w1 := h.2.1
theorem Dr.drew {w0 w w1 : World} {g : Nat} {code : List Int} {B : Int} (h : Dr w0 w w1 g code B) : Dr w0 w w1.drew g code B := ⟨h.1, below_drew1 h.2.1, keep_drew h.2.2⟩
theorem Dr.drewN {w0 w w1 : World} {g : Nat} {code : List Int} {B : Int} (h : Dr w0 w w1 g code B) (n : Nat) : Dr w0 w (w1.drewN n) g code B := ⟨h.1, pw_below_drewN h.2.1 n, keep_drewN h.2.2 n⟩
theorem Dr.alloc {w0 w w1 : World} {g : Nat} {code : List Int} {B : Int} (h : Dr w0 w w1 g code B) (o : Obj) : Dr w0 w (w1.alloc o) g code B := ⟨h.1.alloc o, below_alloc h.2.1 o, keep_alloc h.2.2 o⟩
/-- A row's block is none that lay in w. -/
def Late (w : World) (v : Value) : Prop := ∀ k, v.ownBlock = some k → w.heap.size ≤ k
theorem Late.lit {w w1 : World} {v : Value} (hs : w.heap.size ≤ w1.heap.size) (hn : ∃ b, v.ownBlock = some b ∧ w1.heap.size ≤ b) : Late w v := by
  obtain ⟨b, e, hb⟩ := hn
  intro k hk
  rw [e] at hk
  injection hk with hk
  omega
theorem Late.app {w w1 : World} {v v1 : Value} (h : Late w v) (hs : w.heap.size ≤ w1.heap.size) (hat : v1.ownBlock = v.ownBlock ∨ ∃ b, v1.ownBlock = some b ∧ w1.heap.size ≤ b) : Late w v1 := by
  rcases hat with e | hn
  · intro k hk; exact h k (e ▸ hk)
  · exact Late.lit hs hn
theorem Dr.grown {w0 w w1 w2 : World} {g : Nat} {code : List Int} {B : Int} {v : Value} (h : Dr w0 w w1 g code B) (hg : w1.grownBy w2 v.ownBlock) (hl : Late w v) (hb : Below w0.heap.size w0 w2) (hne : some g ≠ v.ownBlock) : Dr w0 w w2 g code B :=
  ⟨h.1.step (hg.block g h.1.lt hne) (Int.le_refl _), hb, ⟨Nat.le_trans h.2.2.1 hg.size, fun i hi hgi hr => (hg.block i (Nat.lt_of_lt_of_le hi h.2.2.1) (fun e => by have := hl i e.symm; omega)).trans (h.2.2.2 i hi hgi hr)⟩⟩
theorem Dr.lit {w0 w w1 w2 : World} {g : Nat} {code : List Int} {B : Int} (h : Dr w0 w w1 g code B) (hg : w1.grownBy w2 none) (hb : Below w0.heap.size w0 w2) : Dr w0 w w2 g code B :=
  ⟨h.1.step (hg.block g h.1.lt (by simp)) (Int.le_refl _), hb, ⟨Nat.le_trans h.2.2.1 hg.size, fun i hi hgi hr => (hg.block i (Nat.lt_of_lt_of_le hi h.2.2.1) (by simp)).trans (h.2.2.2 i hi hgi hr)⟩⟩
theorem Dr.size {w0 w w1 : World} {g : Nat} {code : List Int} {B : Int} (h : Dr w0 w w1 g code B) : w.heap.size ≤ w1.heap.size := h.2.2.1
/-- A row of one's own behind a draw. -/
theorem R_dr {α : Type} {d : Kd α} {e base : Nat} {w0 w w1 : World} {v : Value} {xs : List α} {g : Nat} {code : List Int} {B B' : Int} (hf : ∀ (w : World) (b : Nat) (p q : Nat → Prop) x cs, d.M w b p x cs → d.M w b q x cs) (h : d.R e w base (fun _ => True) v xs) (hI : Cur w0 w g code B) (ht : e ≠ 78) (hd : Dr w0 w w1 g code B') : d.R e w1 base (fun _ => True) v xs := R_draw hf h hI ht hd.2.2
theorem own_cur {α : Type} {d : Kd α} {e base : Nat} {ok : Nat → Prop} {w0 w : World} {v : Value} {xs : List α} {g : Nat} {code : List Int} {B : Int} (h : d.R e w base ok v xs) (hI : Cur w0 w g code B) (ht : e ≠ 78) : some g ≠ v.ownBlock := by
  obtain ⟨cs, hb⟩ := hI.blk
  exact own_ne h hb ht
theorem Dr.set {w0 w w1 : World} {g : Nat} {code : List Int} {B : Int} (h : Dr w0 w w1 g code B) {q : Nat} (hq : w.heap.size ≤ q) (hb : w0.heap.size ≤ w.heap.size) (hg : g ≠ q) (j : Nat) (v : Value) : Dr w0 w (w1.setCell ⟨q, j, none⟩ v) g code B :=
  ⟨h.1.step (Below.heap_setCell w1 ⟨q, j, none⟩ v g hg) (Int.le_refl _), below_set h.2.1 (Nat.le_trans hb hq), keep_far h.2.2 hq v⟩
theorem Dr.bel {w0 w w1 w2 : World} {g : Nat} {code : List Int} {B : Int} (h : Dr w0 w w1 g code B) (hb : Below w1.heap.size w1 w2) : Dr w0 w w2 g code B :=
  ⟨h.1.below hb, below_step h.2.1 hb, h.2.2.trans (KeepBut.of_below hb g none) (.inl rfl)⟩
set_option maxHeartbeats 16000000 in
set_option maxRecDepth 100000 in
theorem one_c (n : Int) (hn : 1 ≤ n ∧ n ≤ 200) (g : Nat) (code : List Int) (B : Int) (w wa : World) (hI : Cur w wa g code B) (hB : Below w.heap.size w wa) (hb : B ≤ 800000000000) :
    Calls Try.prog 73 #[.pointer (some ⟨g, 0, none⟩), .int .i64 n] wa fun e w' => ∃ x : Bool, e = .returned (.bool x) ∧ Dr w wa w' g code (B + 1) := by
  have HD := am_ (Dr.refl hI hB (Int.le_refl B))
  have HB := am_ hB
  clear hI hB
  go_enter Try.func73, Try.ntmps73
  go_wp2_with fail
  refine (pick_c n hn.2 g code _ w _ HD.out.cur HB.out (by omega)).mono ?_
  rintro e w2 ⟨v, rfl, _, hd⟩
  have k_ := am_ (Dr.trans (by repeat first | exact HD.out | apply Dr.alloc | apply Dr.drewN | apply Dr.drew) hd)
  clear hd HD HB
  have HD := k_
  clear k_
  have HB := am_ HD.out.below
  by_cases hv : v = 0
  · have q1 : (v == 0) = true := by simp [hv]
    have q2 : decide (v = 0) = true := decide_eq_true hv
    clear hv
    go_wp2
    go_ret
    exact ⟨true, rfl, HD.out.more (by omega)⟩
  · have q1 : (v == 0) = false := by simp [hv]
    have q2 : decide (v = 0) = false := decide_eq_false hv
    clear hv
    go_wp2
    go_ret
    exact ⟨false, rfl, HD.out.more (by omega)⟩
def lenOfA : Value → Nat
  | .slice _ n _ => n
  | _ => 0
theorem flat_Asset (w : World) (b : Nat) (p q : Nat → Prop) (x : S51) (cs : List Value) (h : k51.M w b p x cs) : k51.M w b q x cs := by
  obtain rfl := k51_openM h
  exact k51_mkM w b q x

theorem infoA : (Try.prog.info? 51).map (fun i => (i.zero, i.size, i.bytes)) = some (some (.agg #[(.int .i64 0), (.int .i64 0), (.int .i64 0)]), 3, 24) := by kernel_rfl
set_option maxHeartbeats 16000000 in
set_option maxRecDepth 100000 in
theorem assets_c (most : Int) (hmost : 0 ≤ most ∧ most ≤ 10) (g : Nat) (code : List Int) (B : Int) (w wa : World) (hI : Cur w wa g code B) (hB : Below w.heap.size w wa) (hb : B ≤ 800000000000) :
    Calls Try.prog 63 #[.pointer (some ⟨g, 0, none⟩), .int .i64 most] wa fun e w' => ∃ v xs, e = .returned v ∧ Kd.R k51 51 w' w.heap.size (fun _ => True) v xs ∧ xs.length ≤ 100 ∧ Dr w wa w' g code (B + 1000) := by
  have HD := am_ (Dr.refl hI hB (Int.le_refl B))
  have HB := am_ hB
  obtain ⟨m0, m1⟩ := hmost
  clear hI hB
  go_enter Try.func63, Try.ntmps63
  go_wp2_with (((with_reducible refine gate_dst (N := 7) rfl ?_); refine Kd.R_lit k51 w.heap.size 51 (w0 := w) ?hg (N := 7) ?hd (xs := []) (inner := []) (ok := fun _ => True) (okp := fun _ => True) ?hr ?hp (fun _ hk => hk) trivial (by repeat first | (with_reducible first | exact HB.out | apply ba_ | apply bn_ | apply bd_) | exact HB.out) (below_size (by repeat first | (with_reducible first | exact HB.out | apply ba_ | apply bn_ | apply bd_) | exact HB.out)) (by simp) ?_; (case hd => rfl); (case hg => rfl); (case hr => first | (go_simp; done) | (go_simp; rfl)); (case hp => exact (Reps.none _ _)); intro v1 w1 ho hb hgr hnw); have HO := am_ ho; have HL := am_ (Late.lit HD.out.size hnw); have n_ := am_ (HD.out.lit hgr hb); clear HB HD; have HD := n_; have HB := am_ hb; clear n_ ho hb hgr hnw)
  refine (pick_c (most + 1) (by first | decide | omega) g code _ w _ HD.out.cur HB.out (by omega)).mono ?_
  rintro e w2_ ⟨n, rfl, ⟨n0, n1⟩, hd⟩
  have n_HO := am_ (R_dr flat_Asset HO.out HD.out.cur (by decide) hd)
  have k_ := am_ (HD.out.trans hd)
  clear HD HB hd HO
  have HO := n_HO
  clear n_HO
  have HD := k_
  clear k_
  have HB := am_ HD.out.below
  have n7 := n1 (by omega)
  clear n1
  go_wp2_with fail
  go_loopw [5, 6] (fun v5 v6 wr => ∃ (n : Int) (out : List S51), v6 = .int .i64 n ∧ Aside0 (0 ≤ n ∧ n ≤ 10) ∧ Aside0 ((out.length : Int) + n ≤ 10) ∧ Aside0 (Kd.R k51 51 wr w.heap.size (fun _ => True) v5 out) ∧ Aside0 (Late wa v5) ∧ Aside0 (Dr w wa wr g code (B + 50 - 3 * n))) (fun _ v6 _ => (intOf v6).toNat)
  case atStart => exact ⟨n, [], rfl, ⟨by omega⟩, ⟨by simp; omega⟩, ⟨(by (with_reducible repeat first | apply ra_ | apply rn_ | apply rd_); exact HO.out)⟩, HL, ⟨HD.out.more (by omega)⟩⟩
  case round =>
    clear HO HL HD HB n0 n7
    obtain ⟨n, out, rfl, HN, HLN, HO, HL, HD⟩ := hrel
    have HB := am_ HD.out.below
    have n0 := HN.out.1
    have n7 := HN.out.2
    have hol := HLN.out
    by_cases hn : 0 < n
    · have c1 : decide (0 < n) = true := decide_eq_true hn
      go_wp2_with fail
      refine (pick_c 4 (by first | decide | omega) g code _ w _ HD.out.cur HB.out (by omega)).mono ?_
      rintro e w2_ ⟨x0, rfl, ⟨x00, x01⟩, hd⟩
      have n_HO := am_ (R_dr flat_Asset HO.out HD.out.cur (by decide) hd)
      have k_ := am_ (HD.out.trans hd)
      clear HD HB hd HO
      have HO := n_HO
      clear n_HO
      have HD := k_
      clear k_
      have HB := am_ HD.out.below
      have x0b := x01 (by decide)
      clear x01
      go_wp2_with fail
      refine (among_c [0, 1, 50, 100, 100, 333, 12345, 1000000] _ 8 8 (by decide) g code _ w _ (HD.out.alloc _).cur (ba_ HB.out _) (by omega) (blk_new _ _)).mono ?_
      rintro e w2_ ⟨x1, rfl, hx1_, hd⟩
      clear hx1_
      have n_HO := am_ (R_dr flat_Asset (Kd.R_alloc HO.out _) (HD.out.alloc _).cur (by decide) hd)
      have k_ := am_ ((HD.out.alloc _).trans hd)
      clear HD HB hd HO
      have HO := n_HO
      clear n_HO
      have HD := k_
      clear k_
      have HB := am_ HD.out.below
      go_wp2_with fail
      refine (among_c [0, 0, 20, 150, 500, 1000, 7] _ 7 7 (by decide) g code _ w _ (HD.out.alloc _).cur (ba_ HB.out _) (by omega) (blk_new _ _)).mono ?_
      rintro e w2_ ⟨x2, rfl, hx2_, hd⟩
      clear hx2_
      have n_HO := am_ (R_dr flat_Asset (Kd.R_alloc HO.out _) (HD.out.alloc _).cur (by decide) hd)
      have k_ := am_ ((HD.out.alloc _).trans hd)
      clear HD HB hd HO
      have HO := n_HO
      clear n_HO
      have HD := k_
      clear k_
      have HB := am_ HD.out.below
      go_wp2_with (((with_reducible refine gate_builtin (b := .append) (xs := #[.tmp 16, .tmp 26]) rfl ?_); at_builtin; refine Kd.R_append k51 (w0 := w) w.heap.size rfl (.tmp 16) (.tmp 26) 32 51 (.agg #[(.int .i64 0), (.int .i64 0), (.int .i64 0)]) 24 rfl Try.underlying32 infoA rfl (by decide) (by omega) u5 out (⟨x0, x1, x2⟩ : S51) [.int .i64 x0, .int .i64 x1, .int .i64 x2] (fun _ => True) (fun _ => False) rfl rfl ?aP (fun _ hk => hk.elim) ?aF ?aO ?aB ?aS ?aL ?_; (case aP => exact k51_mkM _ _ _ _); (case aB => exact (by repeat first | (with_reducible first | exact HB.out | apply ba_ | apply bn_ | apply bd_) | exact HB.out)); (case aF => exact (fun _ _ => trivial)); (case aO => exact (by (with_reducible repeat first | apply ra_ | apply rn_ | apply rd_); exact HO.out)); (case aS => exact (below_size (by repeat first | (with_reducible first | exact HB.out | apply ba_ | apply bn_ | apply bd_) | exact HB.out))); (case aL => omega); intro v1 w1 ho hb hg hat); have n_ := am_ ho; have l_ := am_ (HL.out.app HD.out.size hat); have k_ := am_ (HD.out.grown hg HL.out hb (own_cur HO.out HD.out.cur (by decide))); clear HO HL HD HB; have HO := n_; have HL := l_; have HD := k_; have HB := am_ hb; clear n_ l_ k_ ho hb hg hat)
      go_roundw
      case rel => exact ⟨n - 1, out ++ [⟨x0, x1, x2⟩], by go_num, ⟨by omega⟩, ⟨by rw [List.length_append, List.length_singleton]; push_cast; omega⟩, ⟨(by (with_reducible repeat first | apply ra_ | apply rn_ | apply rd_); exact HO.out)⟩, HL, ⟨HD.out.more (by omega)⟩⟩
      case measure => simp [intOf]; omega
    · have c1 : decide (0 < n) = false := decide_eq_false hn
      have HOL := am_ (show out.length ≤ 10 from by omega)
      go_wp2_with fail
      refine (pick_c 40 (by first | decide | omega) g code _ w _ HD.out.cur HB.out (by omega)).mono ?_
      rintro e w2_ ⟨v, rfl, ⟨v0, v1⟩, hd⟩
      have n_HO := am_ (R_dr flat_Asset HO.out HD.out.cur (by decide) hd)
      have k_ := am_ (HD.out.trans hd)
      clear HD HB hd HO
      have HO := n_HO
      clear n_HO
      have HD := k_
      clear k_
      have HB := am_ HD.out.below
      have v2 := v1 (by decide)
      clear v1
      have hol2 := HOL.out
      by_cases e0 : v = 0
      · subst e0
        go_wp2_with fail
        refine (among_c [-1, 10, 9] _ 3 3 (by decide) g code _ w _ (HD.out.alloc _).cur (ba_ HB.out _) (by omega) (blk_new _ _)).mono ?_
        rintro e w2_ ⟨x1, rfl, hx1_, hd⟩
        clear hx1_
        have n_HO := am_ (R_dr flat_Asset (Kd.R_alloc HO.out _) (HD.out.alloc _).cur (by decide) hd)
        have k_ := am_ ((HD.out.alloc _).trans hd)
        clear HD HB hd HO
        have HO := n_HO
        clear n_HO
        have HD := k_
        clear k_
        have HB := am_ HD.out.below
        go_wp2_with (((with_reducible refine gate_builtin (b := .append) (xs := #[.tmp 32, .tmp 37]) rfl ?_); at_builtin; refine Kd.R_append k51 (w0 := w) w.heap.size rfl (.tmp 32) (.tmp 37) 32 51 (.agg #[(.int .i64 0), (.int .i64 0), (.int .i64 0)]) 24 rfl Try.underlying32 infoA rfl (by decide) (by omega) u5 out (⟨x1, 1, 0⟩ : S51) [.int .i64 x1, .int .i64 1, .int .i64 0] (fun _ => True) (fun _ => False) rfl rfl ?aP (fun _ hk => hk.elim) ?aF ?aO ?aB ?aS ?aL ?_; (case aP => exact k51_mkM _ _ _ _); (case aB => exact (by repeat first | (with_reducible first | exact HB.out | apply ba_ | apply bn_ | apply bd_) | exact HB.out)); (case aF => exact (fun _ _ => trivial)); (case aO => exact (by (with_reducible repeat first | apply ra_ | apply rn_ | apply rd_); exact HO.out)); (case aS => exact (below_size (by repeat first | (with_reducible first | exact HB.out | apply ba_ | apply bn_ | apply bd_) | exact HB.out))); (case aL => omega); intro v1 w1 ho hb hg hat); have n_ := am_ ho; have l_ := am_ (HL.out.app HD.out.size hat); have k_ := am_ (HD.out.grown hg HL.out hb (own_cur HO.out HD.out.cur (by decide))); clear HO HL HD HB; have HO := n_; have HL := l_; have HD := k_; have HB := am_ hb; clear n_ l_ k_ ho hb hg hat)
        go_ret
        exact ⟨_, _, rfl, (by (with_reducible repeat first | apply ra_ | apply rn_ | apply rd_); exact HO.out), by simp; omega, HD.out.more (by omega)⟩
      · by_cases e1 : v = 1
        · subst e1
          go_wp2_with fail
          refine (among_c [-1, 1000000000, 1000000001] _ 3 3 (by decide) g code _ w _ (HD.out.alloc _).cur (ba_ HB.out _) (by omega) (blk_new _ _)).mono ?_
          rintro e w2_ ⟨x1, rfl, hx1_, hd⟩
          clear hx1_
          have n_HO := am_ (R_dr flat_Asset (Kd.R_alloc HO.out _) (HD.out.alloc _).cur (by decide) hd)
          have k_ := am_ ((HD.out.alloc _).trans hd)
          clear HD HB hd HO
          have HO := n_HO
          clear n_HO
          have HD := k_
          clear k_
          have HB := am_ HD.out.below
          go_wp2_with (((with_reducible refine gate_builtin (b := .append) (xs := #[.tmp 41, .tmp 46]) rfl ?_); at_builtin; refine Kd.R_append k51 (w0 := w) w.heap.size rfl (.tmp 41) (.tmp 46) 32 51 (.agg #[(.int .i64 0), (.int .i64 0), (.int .i64 0)]) 24 rfl Try.underlying32 infoA rfl (by decide) (by omega) u5 out (⟨0, x1, 0⟩ : S51) [.int .i64 0, .int .i64 x1, .int .i64 0] (fun _ => True) (fun _ => False) rfl rfl ?aP (fun _ hk => hk.elim) ?aF ?aO ?aB ?aS ?aL ?_; (case aP => exact k51_mkM _ _ _ _); (case aB => exact (by repeat first | (with_reducible first | exact HB.out | apply ba_ | apply bn_ | apply bd_) | exact HB.out)); (case aF => exact (fun _ _ => trivial)); (case aO => exact (by (with_reducible repeat first | apply ra_ | apply rn_ | apply rd_); exact HO.out)); (case aS => exact (below_size (by repeat first | (with_reducible first | exact HB.out | apply ba_ | apply bn_ | apply bd_) | exact HB.out))); (case aL => omega); intro v1 w1 ho hb hg hat); have n_ := am_ ho; have l_ := am_ (HL.out.app HD.out.size hat); have k_ := am_ (HD.out.grown hg HL.out hb (own_cur HO.out HD.out.cur (by decide))); clear HO HL HD HB; have HO := n_; have HL := l_; have HD := k_; have HB := am_ hb; clear n_ l_ k_ ho hb hg hat)
          go_ret
          exact ⟨_, _, rfl, (by (with_reducible repeat first | apply ra_ | apply rn_ | apply rd_); exact HO.out), by simp; omega, HD.out.more (by omega)⟩
        · by_cases e2 : v = 2
          · subst e2
            go_wp2_with fail
            refine (among_c [-1, 1001] _ 2 2 (by decide) g code _ w _ (HD.out.alloc _).cur (ba_ HB.out _) (by omega) (blk_new _ _)).mono ?_
            rintro e w2_ ⟨x1, rfl, hx1_, hd⟩
            clear hx1_
            have n_HO := am_ (R_dr flat_Asset (Kd.R_alloc HO.out _) (HD.out.alloc _).cur (by decide) hd)
            have k_ := am_ ((HD.out.alloc _).trans hd)
            clear HD HB hd HO
            have HO := n_HO
            clear n_HO
            have HD := k_
            clear k_
            have HB := am_ HD.out.below
            go_wp2_with (((with_reducible refine gate_builtin (b := .append) (xs := #[.tmp 50, .tmp 55]) rfl ?_); at_builtin; refine Kd.R_append k51 (w0 := w) w.heap.size rfl (.tmp 50) (.tmp 55) 32 51 (.agg #[(.int .i64 0), (.int .i64 0), (.int .i64 0)]) 24 rfl Try.underlying32 infoA rfl (by decide) (by omega) u5 out (⟨0, 0, x1⟩ : S51) [.int .i64 0, .int .i64 0, .int .i64 x1] (fun _ => True) (fun _ => False) rfl rfl ?aP (fun _ hk => hk.elim) ?aF ?aO ?aB ?aS ?aL ?_; (case aP => exact k51_mkM _ _ _ _); (case aB => exact (by repeat first | (with_reducible first | exact HB.out | apply ba_ | apply bn_ | apply bd_) | exact HB.out)); (case aF => exact (fun _ _ => trivial)); (case aO => exact (by (with_reducible repeat first | apply ra_ | apply rn_ | apply rd_); exact HO.out)); (case aS => exact (below_size (by repeat first | (with_reducible first | exact HB.out | apply ba_ | apply bn_ | apply bd_) | exact HB.out))); (case aL => omega); intro v1 w1 ho hb hg hat); have n_ := am_ ho; have l_ := am_ (HL.out.app HD.out.size hat); have k_ := am_ (HD.out.grown hg HL.out hb (own_cur HO.out HD.out.cur (by decide))); clear HO HL HD HB; have HO := n_; have HL := l_; have HD := k_; have HB := am_ hb; clear n_ l_ k_ ho hb hg hat)
            go_ret
            exact ⟨_, _, rfl, (by (with_reducible repeat first | apply ra_ | apply rn_ | apply rd_); exact HO.out), by simp; omega, HD.out.more (by omega)⟩
          · have q0 : (v == 0) = false := by simp [e0]
            have q1 : (v == 1) = false := by simp [e1]
            have q2 : (v == 2) = false := by simp [e2]
            by_cases e3 : v = 3
            · subst e3
              clear q0 q1 q2 e0 e1 e2 HLN hol
              go_wp2_with fail
              go_loopw [5] (fun v5 wr => ∃ (out : List S51), Aside0 (out.length ≤ 21) ∧ Aside0 (Kd.R k51 51 wr w.heap.size (fun _ => True) v5 out) ∧ Aside0 (Late wa v5) ∧ Aside0 (Dr w wa wr g code (B + 100 + out.length))) (fun v5 _ => 22 - lenOfA v5)
              case atStart => exact ⟨out, ⟨by omega⟩, ⟨(by (with_reducible repeat first | apply ra_ | apply rn_ | apply rd_); exact HO.out)⟩, HL, ⟨HD.out.more (by omega)⟩⟩
              case round =>
                clear HO HL HD HB hol2 HOL
                obtain ⟨out, HLN, HO, HL, HD⟩ := hrel
                have HB := am_ HD.out.below
                obtain ⟨A3, c3, e3⟩ := Kd.R_slice HO.out
                subst e3
                have hol := HLN.out
                go_wp2_with fail
                refine (pick_c 2 (by first | decide | omega) g code _ w _ HD.out.cur HB.out (by omega)).mono ?_
                rintro e w2_ ⟨p, rfl, ⟨p0, p1⟩, hd⟩
                have n_HO := am_ (R_dr flat_Asset HO.out HD.out.cur (by decide) hd)
                have k_ := am_ (HD.out.trans hd)
                clear HD HB hd HO
                have HO := n_HO
                clear n_HO
                have HD := k_
                clear k_
                have HB := am_ HD.out.below
                have p2 := p1 (by decide)
                clear p1
                by_cases hp : (out.length : Int) < 20 + p
                · have d1 : decide ((out.length : Int) < 20 + p) = true := decide_eq_true hp
                  go_wp2_with (((with_reducible refine gate_builtin (b := .append) (xs := #[.tmp 65, .tmp 67]) rfl ?_); at_builtin; refine Kd.R_append k51 (w0 := w) w.heap.size rfl (.tmp 65) (.tmp 67) 32 51 (.agg #[(.int .i64 0), (.int .i64 0), (.int .i64 0)]) 24 rfl Try.underlying32 infoA rfl (by decide) (by omega) (.slice A3 out.length c3) out (⟨0, 7, 0⟩ : S51) [.int .i64 0, .int .i64 7, .int .i64 0] (fun _ => True) (fun _ => False) rfl rfl ?aP (fun _ hk => hk.elim) ?aF ?aO ?aB ?aS ?aL ?_; (case aP => exact k51_mkM _ _ _ _); (case aB => exact (by repeat first | (with_reducible first | exact HB.out | apply ba_ | apply bn_ | apply bd_) | exact HB.out)); (case aF => exact (fun _ _ => trivial)); (case aO => exact (by (with_reducible repeat first | apply ra_ | apply rn_ | apply rd_); exact HO.out)); (case aS => exact (below_size (by repeat first | (with_reducible first | exact HB.out | apply ba_ | apply bn_ | apply bd_) | exact HB.out))); (case aL => omega); intro v1 w1 ho hb hg hat); have n_ := am_ ho; have l_ := am_ (HL.out.app HD.out.size hat); have k_ := am_ (HD.out.grown hg HL.out hb (own_cur HO.out HD.out.cur (by decide))); clear HO HL HD HB; have HO := n_; have HL := l_; have HD := k_; have HB := am_ hb; clear n_ l_ k_ ho hb hg hat)
                  obtain ⟨A4, c4, e4⟩ := Kd.R_slice HO.out
                  go_roundw
                  case rel => exact ⟨out ++ [⟨0, 7, 0⟩], ⟨by simp; omega⟩, ⟨(by (with_reducible repeat first | apply ra_ | apply rn_ | apply rd_); exact HO.out)⟩, HL, ⟨HD.out.more (by simp; omega)⟩⟩
                  case measure => rw [e4]; simp [lenOfA]; omega
                · have d1 : decide ((out.length : Int) < 20 + p) = false := decide_eq_false hp
                  go_wp2
                  go_ret
                  exact ⟨_, out, rfl, (by (with_reducible repeat first | apply ra_ | apply rn_ | apply rd_); exact HO.out), by omega, HD.out.more (by omega)⟩
            · have q3 : (v == 3) = false := by simp [e3]
              have z0 : decide (v = 0) = false := decide_eq_false e0
              have z1 : decide (v = 1) = false := decide_eq_false e1
              have z2 : decide (v = 2) = false := decide_eq_false e2
              have z3 : decide (v = 3) = false := decide_eq_false e3
              go_wp2
              go_ret
              exact ⟨_, out, rfl, (by (with_reducible repeat first | apply ra_ | apply rn_ | apply rd_); exact HO.out), by omega, HD.out.more (by omega)⟩
set_option maxHeartbeats 16000000 in
set_option maxRecDepth 100000 in
theorem drawConc_c (A : Option Addr) (c : Nat) (code : List Int) (w : World) (hr : (Kd.int .u8).C w A code.length code) (hx : ∀ x ∈ code, 0 ≤ x ∧ x ≤ 255) :
    Calls Try.prog 31 #[.slice A code.length c] w fun e w' => ∃ v lim, e = .returned (.tuple #[v, .int .i64 lim]) ∧ ∃ xs, Kd.R k51 51 w' w.heap.size (fun _ => True) v xs ∧ xs.length ≤ 100 ∧ Below w.heap.size w w' := by
  have HC := am_ (fun hb => Cur.new (w0 := w) (w := w) (c := c) hb hr hx)
  clear hr hx
  go_enter Try.func31, Try.ntmps31
  go_wp2_with fail
  have HC1 := am_ (HC.out (Below.refl _ _))
  have HB1 := am_ (ba_ (Below.refl w.heap.size w) (.cells #[.slice A code.length c, .int .i64 0, .int .u64 0] 78))
  clear HC
  obtain ⟨wa, hwa⟩ : ∃ W, W = w.alloc (.cells #[.slice A code.length c, .int .i64 0, .int .u64 0] 78) := ⟨_, rfl⟩
  rw [← hwa] at HC1 HB1 ⊢
  clear hwa
  generalize w.heap.size = g at HC1 ⊢
  refine (assets_c 8 (by decide) g code 0 w _ HC1.out HB1.out (by omega)).mono ?_
  rintro e w2 ⟨v5, xs, rfl, ho, hl, hd⟩
  have HO := am_ ho
  have HXL := am_ hl
  have HD := am_ hd
  have HB := am_ hd.below
  clear ho hl hd HC1 HB1
  go_wp2_with fail
  refine (pick_c 24 (by decide) g code _ w _ (HD.out.alloc _).cur (ba_ HB.out _) (by omega)).mono ?_
  rintro e w3 ⟨v, rfl, ⟨v0, v1⟩, hd⟩
  have HBK := am_ (hd.2.2.blk (g' := w2.heap.size) (o := .cells (numsA [0, 100, 250, 500, 1000, 333, -1, 1001]) 3 (0, 0)) (blk_new w2 _) (Nat.ne_of_gt (Cur.lt HD.out.cur)) (by simp))
  have v2 := v1 (by decide)
  clear v1
  have n_ := am_ (R_dr flat_Asset (by (with_reducible repeat first | apply ra_ | apply rn_ | apply rd_); exact HO.out) (Dr.cur (by repeat first | exact HD.out | apply Dr.alloc | apply Dr.drewN | apply Dr.drew)) (by decide) hd)
  clear HO
  have HO := n_
  clear n_
  have k_ := am_ (Dr.trans (by repeat first | exact HD.out | apply Dr.alloc | apply Dr.drewN | apply Dr.drew) hd)
  clear hd HD HB
  have HD := k_
  clear k_
  have HB := am_ HD.out.below
  generalize w2.heap.size = b at HBK ⊢
  by_cases c0 : v < 12
  · have q1 : v.tdiv 12 = 0 := by rw [Int.tdiv_eq_ediv_of_nonneg v0]; omega
    have q2 : v / 12 = 0 := by omega
    go_wp2_with fail
    refine (among_c [0, 100, 250, 500, 1000, 333, -1, 1001] b 6 8 (by decide) g code _ w _ HD.out.cur HB.out (by omega) HBK.out).mono ?_
    rintro e w4 ⟨x, rfl, _, hd⟩
    clear q1 q2 v0 v2
    have n_ := am_ (R_dr flat_Asset (by (with_reducible repeat first | apply ra_ | apply rn_ | apply rd_); exact HO.out) (Dr.cur (by repeat first | exact HD.out | apply Dr.alloc | apply Dr.drewN | apply Dr.drew)) (by decide) hd)
    clear HO
    have HO := n_
    clear n_
    have k_ := am_ (Dr.trans (by repeat first | exact HD.out | apply Dr.alloc | apply Dr.drewN | apply Dr.drew) hd)
    clear hd HD HB
    have HD := k_
    clear k_
    have HB := am_ HD.out.below
    clear HBK
    go_wp2
    go_ret2
    exact ⟨v5, x, rfl, xs, (by (with_reducible repeat first | apply ra_ | apply rn_ | apply rd_); exact HO.out), HXL.out, (by repeat first | (with_reducible first | exact HB.out | apply ba_ | apply bn_ | apply bd_) | exact HB.out)⟩
  · have q1 : v.tdiv 12 = 1 := by rw [Int.tdiv_eq_ediv_of_nonneg v0]; omega
    have q2 : v / 12 = 1 := by omega
    go_wp2_with fail
    refine (among_c [0, 100, 250, 500, 1000, 333, -1, 1001] b 7 8 (by decide) g code _ w _ HD.out.cur HB.out (by omega) HBK.out).mono ?_
    rintro e w4 ⟨x, rfl, _, hd⟩
    clear q1 q2 v0 v2
    have n_ := am_ (R_dr flat_Asset (by (with_reducible repeat first | apply ra_ | apply rn_ | apply rd_); exact HO.out) (Dr.cur (by repeat first | exact HD.out | apply Dr.alloc | apply Dr.drewN | apply Dr.drew)) (by decide) hd)
    clear HO
    have HO := n_
    clear n_
    have k_ := am_ (Dr.trans (by repeat first | exact HD.out | apply Dr.alloc | apply Dr.drewN | apply Dr.drew) hd)
    clear hd HD HB
    have HD := k_
    clear k_
    have HB := am_ HD.out.below
    clear HBK
    go_wp2
    go_ret2
    exact ⟨v5, x, rfl, xs, (by (with_reducible repeat first | apply ra_ | apply rn_ | apply rd_); exact HO.out), HXL.out, (by repeat first | (with_reducible first | exact HB.out | apply ba_ | apply bn_ | apply bd_) | exact HB.out)⟩
theorem infoI : (Try.prog.info? 3).map (fun i => (i.zero, i.size, i.bytes)) = some (some (.int .i64 0), 1, 8) := by kernel_rfl
set_option maxHeartbeats 16000000 in
set_option maxRecDepth 100000 in
theorem drawSel_c (A : Option Addr) (c : Nat) (code : List Int) (w : World) (hr : (Kd.int .u8).C w A code.length code) (hx : ∀ x ∈ code, 0 ≤ x ∧ x ≤ 255) :
    Calls Try.prog 45 #[.slice A code.length c] w fun e w' => ∃ v need, e = .returned (.tuple #[v, .int .i64 need]) ∧ ∃ xs, Kd.R k51 51 w' w.heap.size (fun _ => True) v xs ∧ xs.length ≤ 100 ∧ Below w.heap.size w w' := by
  have HC := am_ (fun hb => Cur.new (w0 := w) (w := w) (c := c) hb hr hx)
  clear hr hx
  go_enter Try.func45, Try.ntmps45
  go_upto_region 2 with (fail)
  have HC1 := am_ (HC.out (Below.refl _ _))
  have HB1 := am_ (ba_ (Below.refl w.heap.size w) (.cells #[.slice A code.length c, .int .i64 0, .int .u64 0] 78))
  have HK1 := am_ (keep_alloc (KeepBut.refl w w.heap.size none) (.cells #[.slice A code.length c, .int .i64 0, .int .u64 0] 78))
  clear HC
  obtain ⟨wa, hwa⟩ : ∃ W, W = w.alloc (.cells #[.slice A code.length c, .int .i64 0, .int .u64 0] 78) := ⟨_, rfl⟩
  rw [← hwa] at HC1 HB1 HK1 ⊢
  clear hwa
  generalize w.heap.size = g at HC1 HK1 ⊢
  have HD := am_ (show Dr w w wa g code 0 from ⟨HC1.out, HB1.out, HK1.out⟩)
  have HB := HB1
  clear HC1 HK1 HB1
  go_wp2_with fail
  refine (assets_c 6 (by decide) g code 0 w _ HD.out.cur HB.out (by omega)).mono ?_
  rintro e w2 ⟨v5, xs, rfl, ho, hl, hd⟩
  have HO := am_ ho
  have HXL := am_ hl
  have HL := am_ (show Late w v5 from fun k hk => ((Kd.R_bound HO.out).1 k hk).2.1)
  clear ho hl
  have k_ := am_ (Dr.trans (by repeat first | exact HD.out | apply Dr.alloc | apply Dr.drewN | apply Dr.drew) hd)
  clear hd HD HB
  have HD := k_
  clear k_
  have HB := am_ HD.out.below
  go_wp2_with fail
  refine (one_c 16 (by decide) g code _ w _ HD.out.cur HB.out (by omega)).mono ?_
  rintro e w3 ⟨b0, rfl, hd⟩
  have n_ := am_ (R_dr flat_Asset (by (with_reducible repeat first | apply ra_ | apply rn_ | apply rd_); exact HO.out) (Dr.cur (by repeat first | exact HD.out | apply Dr.alloc | apply Dr.drewN | apply Dr.drew)) (by decide) hd)
  clear HO
  have HO := n_
  clear n_
  have k_ := am_ (Dr.trans (by repeat first | exact HD.out | apply Dr.alloc | apply Dr.drewN | apply Dr.drew) hd)
  clear hd HD HB
  have HD := k_
  clear k_
  have HB := am_ HD.out.below
  cases b0 with
  | false =>
    clear HL
    go_wp2_with fail
    refine (pick_c 24 (by decide) g code _ w _ (HD.out.alloc _).cur (ba_ HB.out _) (by omega)).mono ?_
    rintro e w8 ⟨v, rfl, ⟨v0, v1⟩, hd⟩
    have HBK := am_ (hd.2.2.blk (g' := w3.heap.size) (o := .cells (numsA [0, 1, 50, 100, 150, 433, 5000, 1000000, -1, 1000000001]) 3 (0, 0)) (blk_new w3 _) (Nat.ne_of_gt (Cur.lt HD.out.cur)) (by simp))
    have v2 := v1 (by decide)
    clear v1
    have n_ := am_ (R_dr flat_Asset (by (with_reducible repeat first | apply ra_ | apply rn_ | apply rd_); exact HO.out) (Dr.cur (by repeat first | exact HD.out | apply Dr.alloc | apply Dr.drewN | apply Dr.drew)) (by decide) hd)
    clear HO
    have HO := n_
    clear n_
    have k_ := am_ (Dr.trans (by repeat first | exact HD.out | apply Dr.alloc | apply Dr.drewN | apply Dr.drew) hd)
    clear hd HD HB
    have HD := k_
    clear k_
    have HB := am_ HD.out.below
    generalize w3.heap.size = b at HBK ⊢
    by_cases c0 : v < 12
    · have q1 : v.tdiv 12 = 0 := by rw [Int.tdiv_eq_ediv_of_nonneg v0]; omega
      have q2 : v / 12 = 0 := by omega
      go_wp2_with fail
      refine (among_c [0, 1, 50, 100, 150, 433, 5000, 1000000, -1, 1000000001] b 8 10 (by decide) g code _ w _ HD.out.cur HB.out (by omega) HBK.out).mono ?_
      rintro e w9 ⟨x, rfl, _, hd⟩
      clear q1 q2 v0 v2
      have n_ := am_ (R_dr flat_Asset (by (with_reducible repeat first | apply ra_ | apply rn_ | apply rd_); exact HO.out) (Dr.cur (by repeat first | exact HD.out | apply Dr.alloc | apply Dr.drewN | apply Dr.drew)) (by decide) hd)
      clear HO
      have HO := n_
      clear n_
      have k_ := am_ (Dr.trans (by repeat first | exact HD.out | apply Dr.alloc | apply Dr.drewN | apply Dr.drew) hd)
      clear hd HD HB
      have HD := k_
      clear k_
      have HB := am_ HD.out.below
      clear HBK
      go_wp2
      go_ret2
      exact ⟨_, x, rfl, _, (by (with_reducible repeat first | apply ra_ | apply rn_ | apply rd_); exact HO.out), by have := HXL.out; omega, (by repeat first | (with_reducible first | exact HB.out | apply ba_ | apply bn_ | apply bd_) | exact HB.out)⟩
    · have q1 : v.tdiv 12 = 1 := by rw [Int.tdiv_eq_ediv_of_nonneg v0]; omega
      have q2 : v / 12 = 1 := by omega
      go_wp2_with fail
      refine (among_c [0, 1, 50, 100, 150, 433, 5000, 1000000, -1, 1000000001] b 9 10 (by decide) g code _ w _ HD.out.cur HB.out (by omega) HBK.out).mono ?_
      rintro e w9 ⟨x, rfl, _, hd⟩
      clear q1 q2 v0 v2
      have n_ := am_ (R_dr flat_Asset (by (with_reducible repeat first | apply ra_ | apply rn_ | apply rd_); exact HO.out) (Dr.cur (by repeat first | exact HD.out | apply Dr.alloc | apply Dr.drewN | apply Dr.drew)) (by decide) hd)
      clear HO
      have HO := n_
      clear n_
      have k_ := am_ (Dr.trans (by repeat first | exact HD.out | apply Dr.alloc | apply Dr.drewN | apply Dr.drew) hd)
      clear hd HD HB
      have HD := k_
      clear k_
      have HB := am_ HD.out.below
      clear HBK
      go_wp2
      go_ret2
      exact ⟨_, x, rfl, _, (by (with_reducible repeat first | apply ra_ | apply rn_ | apply rd_); exact HO.out), by have := HXL.out; omega, (by repeat first | (with_reducible first | exact HB.out | apply ba_ | apply bn_ | apply bd_) | exact HB.out)⟩
  | true =>
    go_wp2_with fail
    go_loopw [5] (fun v5 wr => ∃ (out : List S51), Aside0 (out.length ≤ 100) ∧ Aside0 (Kd.R k51 51 wr w.heap.size (fun _ => True) v5 out) ∧ Aside0 (Late w v5) ∧ Aside0 (Dr w w wr g code (2000 + out.length))) (fun v5 _ => 12 - lenOfA v5)
    case atStart => exact ⟨xs, HXL, ⟨(by (with_reducible repeat first | apply ra_ | apply rn_ | apply rd_); exact HO.out)⟩, HL, ⟨HD.out.more (by omega)⟩⟩
    case round =>
      clear HO HL HD HB HXL
      obtain ⟨out, HXL, HO, HL, HD⟩ := hrel
      have HB := am_ HD.out.below
      obtain ⟨A3, c3, e3⟩ := Kd.R_slice HO.out
      subst e3
      have hol := HXL.out
      go_wp2_with fail
      refine (pick_c 2 (by decide) g code _ w _ HD.out.cur HB.out (by omega)).mono ?_
      rintro e w4 ⟨p, rfl, ⟨p0, p1⟩, hd⟩
      have n_ := am_ (R_dr flat_Asset (by (with_reducible repeat first | apply ra_ | apply rn_ | apply rd_); exact HO.out) (Dr.cur (by repeat first | exact HD.out | apply Dr.alloc | apply Dr.drewN | apply Dr.drew)) (by decide) hd)
      clear HO
      have HO := n_
      clear n_
      have k_ := am_ (Dr.trans (by repeat first | exact HD.out | apply Dr.alloc | apply Dr.drewN | apply Dr.drew) hd)
      clear hd HD HB
      have HD := k_
      clear k_
      have HB := am_ HD.out.below
      have p2 := p1 (by decide)
      clear p1
      by_cases hp : (out.length : Int) < 10 + p
      · have d1 : decide ((out.length : Int) < 10 + p) = true := decide_eq_true hp
        go_wp2_with (((with_reducible refine gate_builtin (b := .append) (xs := #[.tmp 19, .tmp 24]) rfl ?_); at_builtin; refine Kd.R_append k51 (w0 := w) w.heap.size rfl (.tmp 19) (.tmp 24) 32 51 (.agg #[(.int .i64 0), (.int .i64 0), (.int .i64 0)]) 24 rfl Try.underlying32 infoA rfl (by decide) (by omega) (.slice A3 out.length c3) out (⟨0, 10 + (out.length : Int), 0⟩ : S51) [.int .i64 0, .int .i64 (10 + (out.length : Int)), .int .i64 0] (fun _ => True) (fun _ => False) rfl rfl ?aP (fun _ hk => hk.elim) ?aF ?aO ?aB ?aS ?aL ?_; (case aP => exact k51_mkM _ _ _ _); (case aB => exact (by repeat first | (with_reducible first | exact HB.out | apply ba_ | apply bn_ | apply bd_) | exact HB.out)); (case aF => exact (fun _ _ => trivial)); (case aO => exact (by (with_reducible repeat first | apply ra_ | apply rn_ | apply rd_); exact HO.out)); (case aS => exact (below_size (by repeat first | (with_reducible first | exact HB.out | apply ba_ | apply bn_ | apply bd_) | exact HB.out))); (case aL => omega); intro v1 w1 ho hb hg hat); have n_ := am_ ho; have l_ := am_ (HL.out.app HD.out.size hat); have k_ := am_ (HD.out.grown hg HL.out hb (own_cur HO.out HD.out.cur (by decide))); clear HO HL HD HB; have HO := n_; have HL := l_; have HD := k_; have HB := am_ hb; clear n_ l_ k_ ho hb hg hat)
        obtain ⟨A4, c4, e4⟩ := Kd.R_slice HO.out
        go_roundw
        case rel => exact ⟨out ++ [⟨0, 10 + (out.length : Int), 0⟩], ⟨by simp; omega⟩, ⟨(by (with_reducible repeat first | apply ra_ | apply rn_ | apply rd_); exact HO.out)⟩, HL, ⟨HD.out.more (by simp; omega)⟩⟩
        case measure => rw [e4]; simp [lenOfA]; omega
      · have d1 : decide ((out.length : Int) < 10 + p) = false := decide_eq_false hp
        clear HL
        go_wp2_with fail
        refine (pick_c 24 (by decide) g code _ w _ (HD.out.alloc _).cur (ba_ HB.out _) (by omega)).mono ?_
        rintro e w8 ⟨v, rfl, ⟨v0, v1⟩, hd⟩
        have HBK := am_ (hd.2.2.blk (g' := w4.heap.size) (o := .cells (numsA [0, 1, 50, 100, 150, 433, 5000, 1000000, -1, 1000000001]) 3 (0, 0)) (blk_new w4 _) (Nat.ne_of_gt (Cur.lt HD.out.cur)) (by simp))
        have v2 := v1 (by decide)
        clear v1
        have n_ := am_ (R_dr flat_Asset (by (with_reducible repeat first | apply ra_ | apply rn_ | apply rd_); exact HO.out) (Dr.cur (by repeat first | exact HD.out | apply Dr.alloc | apply Dr.drewN | apply Dr.drew)) (by decide) hd)
        clear HO
        have HO := n_
        clear n_
        have k_ := am_ (Dr.trans (by repeat first | exact HD.out | apply Dr.alloc | apply Dr.drewN | apply Dr.drew) hd)
        clear hd HD HB
        have HD := k_
        clear k_
        have HB := am_ HD.out.below
        generalize w4.heap.size = b at HBK ⊢
        by_cases c0 : v < 12
        · have q1 : v.tdiv 12 = 0 := by rw [Int.tdiv_eq_ediv_of_nonneg v0]; omega
          have q2 : v / 12 = 0 := by omega
          go_wp2_with fail
          refine (among_c [0, 1, 50, 100, 150, 433, 5000, 1000000, -1, 1000000001] b 8 10 (by decide) g code _ w _ HD.out.cur HB.out (by omega) HBK.out).mono ?_
          rintro e w9 ⟨x, rfl, _, hd⟩
          clear q1 q2 v0 v2
          have n_ := am_ (R_dr flat_Asset (by (with_reducible repeat first | apply ra_ | apply rn_ | apply rd_); exact HO.out) (Dr.cur (by repeat first | exact HD.out | apply Dr.alloc | apply Dr.drewN | apply Dr.drew)) (by decide) hd)
          clear HO
          have HO := n_
          clear n_
          have k_ := am_ (Dr.trans (by repeat first | exact HD.out | apply Dr.alloc | apply Dr.drewN | apply Dr.drew) hd)
          clear hd HD HB
          have HD := k_
          clear k_
          have HB := am_ HD.out.below
          clear HBK
          go_wp2
          go_ret2
          exact ⟨_, x, rfl, _, (by (with_reducible repeat first | apply ra_ | apply rn_ | apply rd_); exact HO.out), by have := HXL.out; omega, (by repeat first | (with_reducible first | exact HB.out | apply ba_ | apply bn_ | apply bd_) | exact HB.out)⟩
        · have q1 : v.tdiv 12 = 1 := by rw [Int.tdiv_eq_ediv_of_nonneg v0]; omega
          have q2 : v / 12 = 1 := by omega
          go_wp2_with fail
          refine (among_c [0, 1, 50, 100, 150, 433, 5000, 1000000, -1, 1000000001] b 9 10 (by decide) g code _ w _ HD.out.cur HB.out (by omega) HBK.out).mono ?_
          rintro e w9 ⟨x, rfl, _, hd⟩
          clear q1 q2 v0 v2
          have n_ := am_ (R_dr flat_Asset (by (with_reducible repeat first | apply ra_ | apply rn_ | apply rd_); exact HO.out) (Dr.cur (by repeat first | exact HD.out | apply Dr.alloc | apply Dr.drewN | apply Dr.drew)) (by decide) hd)
          clear HO
          have HO := n_
          clear n_
          have k_ := am_ (Dr.trans (by repeat first | exact HD.out | apply Dr.alloc | apply Dr.drewN | apply Dr.drew) hd)
          clear hd HD HB
          have HD := k_
          clear k_
          have HB := am_ HD.out.below
          clear HBK
          go_wp2
          go_ret2
          exact ⟨_, x, rfl, _, (by (with_reducible repeat first | apply ra_ | apply rn_ | apply rd_); exact HO.out), by have := HXL.out; omega, (by repeat first | (with_reducible first | exact HB.out | apply ba_ | apply bn_ | apply bd_) | exact HB.out)⟩
set_option maxHeartbeats 16000000 in
set_option maxRecDepth 100000 in
theorem drawStr_c (A : Option Addr) (c : Nat) (code : List Int) (w : World) (hr : (Kd.int .u8).C w A code.length code) (hx : ∀ x ∈ code, 0 ≤ x ∧ x ≤ 255) :
    Calls Try.prog 46 #[.slice A code.length c] w fun e w' => ∃ v xs A1 c1 sh, e = .returned (.tuple #[v, .slice A1 (List.length (α := Int) sh) c1]) ∧ Kd.R k51 51 w' w.heap.size (fun _ => True) v xs ∧ xs.length ≤ 100 ∧ (Kd.int .i64).C w' A1 sh.length sh ∧ sh.length ≤ c1 ∧ sh.length ≤ 10 ∧ (sh.length = 10 → ∃ b, A1 = some ⟨b, 0, none⟩) ∧ Below w.heap.size w w' := by
  have HC := am_ (fun hb => Cur.new (w0 := w) (w := w) (c := c) hb hr hx)
  clear hr hx
  go_enter Try.func46, Try.ntmps46
  go_upto_region 2 with (fail)
  have HC1 := am_ (HC.out (Below.refl _ _))
  have HB1 := am_ (ba_ (Below.refl w.heap.size w) (.cells #[.slice A code.length c, .int .i64 0, .int .u64 0] 78))
  have HK1 := am_ (keep_alloc (KeepBut.refl w w.heap.size none) (.cells #[.slice A code.length c, .int .i64 0, .int .u64 0] 78))
  clear HC
  obtain ⟨wa, hwa⟩ : ∃ W, W = w.alloc (.cells #[.slice A code.length c, .int .i64 0, .int .u64 0] 78) := ⟨_, rfl⟩
  rw [← hwa] at HC1 HB1 HK1 ⊢
  clear hwa
  generalize w.heap.size = g at HC1 HK1 ⊢
  have HD := am_ (show Dr w w wa g code 0 from ⟨HC1.out, HB1.out, HK1.out⟩)
  have HB := HB1
  clear HC1 HK1 HB1
  go_wp2_with (((with_reducible refine gate_dst (N := 10) rfl ?_); refine Kd.R_lit (Kd.int .i64) w.heap.size 3 (w0 := w) ?hg (N := 10) ?hd (xs := []) (inner := []) (ok := fun _ => True) (okp := fun _ => True) ?hr ?hp (fun _ hk => hk) trivial (by repeat first | (with_reducible first | exact HB.out | apply ba_ | apply bn_ | apply bd_) | exact HB.out) (below_size (by repeat first | (with_reducible first | exact HB.out | apply ba_ | apply bn_ | apply bd_) | exact HB.out)) (by simp) ?_; (case hd => rfl); (case hg => rfl); (case hr => first | (go_simp; done) | (go_simp; rfl)); (case hp => exact (Reps.none _ _)); intro v1 w1 ho hb hgr hnw); have HO := am_ ho; have HL := am_ (Late.lit HD.out.size hnw); have n_ := am_ (HD.out.lit hgr hb); clear HB HD; have HD := n_; have HB := am_ hb; clear n_ ho hb hgr hnw)
  go_loopw [5, 6] (fun v5 v6 wr => ∃ (i : Nat) (out : List Int), v6 = .int .i64 i ∧ Aside0 (i ≤ 10) ∧ Aside0 (out.length = i) ∧ Aside0 ((Kd.int .i64).R 3 wr w.heap.size (fun _ => True) v5 out) ∧ Aside0 (Late w v5) ∧ Aside0 (Dr w w wr g code (5 * i))) (fun _ v6 _ => 10 - (intOf v6).toNat)
  case atStart => exact ⟨0, [], rfl, ⟨by decide⟩, ⟨rfl⟩, ⟨(by (with_reducible repeat first | apply ra_ | apply rn_ | apply rd_); exact HO.out)⟩, HL, ⟨HD.out.more (by omega)⟩⟩
  case round =>
    clear HO HL HD HB
    obtain ⟨i, out, rfl, HI, HLN, HO, HL, HD⟩ := hrel
    have HB := am_ HD.out.below
    have hi := HI.out
    have hol : out.length ≤ 10 := by have := HLN.out; omega
    by_cases hn : i < 10
    · have c1 : decide ((i : Int) < 10) = true := decide_eq_true (by omega)
      go_wp2_with fail
      refine (among_c [0, 10, 200, 1000, 333] _ 5 5 (by decide) g code _ w _ (HD.out.alloc _).cur (ba_ HB.out _) (by omega) (blk_new _ _)).mono ?_
      rintro e w3 ⟨x, rfl, _, hd⟩
      have n_ := am_ (R_dr flat_int (by (with_reducible repeat first | apply ra_ | apply rn_ | apply rd_); exact HO.out) (Dr.cur (by repeat first | exact HD.out | apply Dr.alloc | apply Dr.drewN | apply Dr.drew)) (by decide) hd)
      clear HO
      have HO := n_
      clear n_
      have k_ := am_ (Dr.trans (by repeat first | exact HD.out | apply Dr.alloc | apply Dr.drewN | apply Dr.drew) hd)
      clear hd HD HB
      have HD := k_
      clear k_
      have HB := am_ HD.out.below
      go_wp2_with (((with_reducible refine gate_builtin (b := .append) (xs := #[.tmp 15, .tmp 19]) rfl ?_); at_builtin; refine Kd.R_append (Kd.int .i64) (w0 := w) w.heap.size rfl (.tmp 15) (.tmp 19) 39 3 (.int .i64 0) 8 rfl Try.underlying39 infoI rfl (by decide) (by omega) u5 out x [.int .i64 x] (fun _ => True) (fun _ => False) rfl rfl ?aP (fun _ hk => hk.elim) ?aF ?aO ?aB ?aS ?aL ?_; (case aP => exact rfl); (case aB => exact (by repeat first | (with_reducible first | exact HB.out | apply ba_ | apply bn_ | apply bd_) | exact HB.out)); (case aF => exact (fun _ _ => trivial)); (case aO => exact (by (with_reducible repeat first | apply ra_ | apply rn_ | apply rd_); exact HO.out)); (case aS => exact (below_size (by repeat first | (with_reducible first | exact HB.out | apply ba_ | apply bn_ | apply bd_) | exact HB.out))); (case aL => omega); intro v1 w1 ho hb hg hat); have n_ := am_ ho; have l_ := am_ (HL.out.app HD.out.size hat); have k_ := am_ (HD.out.grown hg HL.out hb (own_cur HO.out HD.out.cur (by decide))); clear HO HL HD HB; have HO := n_; have HL := l_; have HD := k_; have HB := am_ hb; clear n_ l_ k_ ho hb hg hat)
      go_roundw
      case rel => exact ⟨i + 1, out ++ [x], by go_num, ⟨by omega⟩, ⟨by have := HLN.out; simp; omega⟩, ⟨(by (with_reducible repeat first | apply ra_ | apply rn_ | apply rd_); exact HO.out)⟩, HL, ⟨HD.out.more (by omega)⟩⟩
      case measure => simp [intOf]; omega
    · have c1 : decide ((i : Int) < 10) = false := decide_eq_false (by omega)
      obtain rfl : i = 10 := by omega
      obtain ⟨A5, c5, e5⟩ := Kd.R_slice HO.out
      subst e5
      clear hn hi HI
      go_wp2_with fail
      refine (pick_c 24 (by decide) g code _ w _ HD.out.cur HB.out (by omega)).mono ?_
      rintro e w4 ⟨v, rfl, _, hd⟩
      have n_ := am_ (R_dr flat_int (by (with_reducible repeat first | apply ra_ | apply rn_ | apply rd_); exact HO.out) (Dr.cur (by repeat first | exact HD.out | apply Dr.alloc | apply Dr.drewN | apply Dr.drew)) (by decide) hd)
      clear HO
      have HO := n_
      clear n_
      have k_ := am_ (Dr.trans (by repeat first | exact HD.out | apply Dr.alloc | apply Dr.drewN | apply Dr.drew) hd)
      clear hd HD HB
      have HD := k_
      clear k_
      have HB := am_ HD.out.below
      have HCP := am_ (R_cap HO.out)
      by_cases e0 : v = 0
      · have q0 : (v == 0) = true := by simp [e0]
        have z0 : decide (v = 0) = true := decide_eq_true e0
        have hne : c5 ≠ 1 := by have := HCP.out; have := HLN.out; omega
        have hne2 : ¬ (c5 = 1) := hne
        have hge : 1 ≤ out.length := by have := HLN.out; omega
        have hge2 : (1 : Int) ≤ (out.length : Int) := by omega
        clear e0
        go_wp2_with fail
        refine (assets_c 6 (by decide) g code _ w _ HD.out.cur HB.out (by omega)).mono ?_
        rintro e w7 ⟨va, xs, rfl, ha, hl, hd⟩
        have HA := am_ ha
        have HXL := am_ hl
        clear ha hl
        have n_ := am_ (R_dr flat_int (by (with_reducible repeat first | apply ra_ | apply rn_ | apply rd_); exact HO.out) (Dr.cur (by repeat first | exact HD.out | apply Dr.alloc | apply Dr.drewN | apply Dr.drew)) (by decide) hd)
        clear HO
        have HO := n_
        clear n_
        have k_ := am_ (Dr.trans (by repeat first | exact HD.out | apply Dr.alloc | apply Dr.drewN | apply Dr.drew) hd)
        clear hd HD HB
        have HD := k_
        clear k_
        have HB := am_ HD.out.below
        go_wp2
        go_ret2
        obtain ⟨gd, egd⟩ := R_head HO.out (by have := HLN.out; omega)
        subst egd
        have hC1 := Kd.C_drop (R_C HO.out) (m := 1) (by have := HLN.out; omega) HCP.out
        rw [if_neg hne] at hC1
        have HC1 := am_ (show (Kd.int .i64).C _ (some ⟨gd, 1, none⟩) (out.drop 1).length (out.drop 1) from hC1)
        exact ⟨va, xs, some ⟨gd, 1, none⟩, c5 - 1, out.drop 1, by rw [List.length_drop]; rfl, (by (with_reducible repeat first | apply ra_ | apply rn_ | apply rd_); exact HA.out), HXL.out, (by repeat first | exact HC1.out | with_reducible refine ca_ ?_ _ | with_reducible refine cn_ ?_ _ | with_reducible refine cd_ ?_), by rw [List.length_drop]; have := HCP.out; omega, by rw [List.length_drop]; have := HLN.out; omega, fun h => by rw [List.length_drop] at h; have := HLN.out; omega, (by repeat first | (with_reducible first | exact HB.out | apply ba_ | apply bn_ | apply bd_) | exact HB.out)⟩
      have q0 : (v == 0) = false := by simp [e0]
      have z0 : decide (v = 0) = false := decide_eq_false e0
      clear e0
      obtain ⟨gd, egd⟩ := R_head HO.out (by have := HLN.out; omega)
      subst egd
      by_cases e1 : v = 1
      · have q1 : (v == 1) = true := by simp [e1]
        have z1 : decide (v = 1) = true := decide_eq_true e1
        clear e1
        go_wp2_with fail
        refine (pick_c 10 (by decide) g code _ w _ HD.out.cur HB.out (by omega)).mono ?_
        rintro e w5 ⟨p, rfl, ⟨p0, p1⟩, hd⟩
        have n_ := am_ (R_dr flat_int (by (with_reducible repeat first | apply ra_ | apply rn_ | apply rd_); exact HO.out) (Dr.cur (by repeat first | exact HD.out | apply Dr.alloc | apply Dr.drewN | apply Dr.drew)) (by decide) hd)
        clear HO
        have HO := n_
        clear n_
        have k_ := am_ (Dr.trans (by repeat first | exact HD.out | apply Dr.alloc | apply Dr.drewN | apply Dr.drew) hd)
        clear hd HD HB
        have HD := k_
        clear k_
        have HB := am_ HD.out.below
        have p2 := p1 (by decide)
        clear p1
        go_wp2_with fail
        refine (among_c [-1, 1001] _ 2 2 (by decide) g code _ w _ (HD.out.alloc _).cur (ba_ HB.out _) (by omega) (blk_new _ _)).mono ?_
        rintro e w6 ⟨x, rfl, _, hd⟩
        have n_ := am_ (R_dr flat_int (by (with_reducible repeat first | apply ra_ | apply rn_ | apply rd_); exact HO.out) (Dr.cur (by repeat first | exact HD.out | apply Dr.alloc | apply Dr.drewN | apply Dr.drew)) (by decide) hd)
        clear HO
        have HO := n_
        clear n_
        have k_ := am_ (Dr.trans (by repeat first | exact HD.out | apply Dr.alloc | apply Dr.drewN | apply Dr.drew) hd)
        clear hd HD HB
        have HD := k_
        clear k_
        have HB := am_ HD.out.below
        have LD := am_ (show w.heap.size ≤ gd from HL.out gd rfl)
        have NGd := am_ (show g ≠ gd from fun e => own_cur HO.out HD.out.cur (by decide) (by rw [e]; rfl))
        obtain ⟨cellsd, hcd⟩ := R_block HO.out (by have := HLN.out; omega)
        have fd := blk_frozen hcd p.toNat
        obtain ⟨Y0, hY0⟩ : ∃ Y, Y = out.getD p.toNat 0 := ⟨_, rfl⟩
        have yd : w6.cell? ⟨gd, p.toNat, none⟩ = some (.int .i64 Y0) := by have h_ := cellsOfD (R_C HO.out) p.toNat (by have := HLN.out; omega); rw [Nat.zero_add] at h_; rw [hY0]; exact h_
        clear hcd hY0
        have hpo : p < (out.length : Int) := by have := HLN.out; omega
        go_upto_region 12 with (fail)
        clear fd yd
        have n_ := am_ (show (Kd.int .i64).R 3 (w6.setCell ⟨gd, p.toNat, none⟩ (.int .i64 x)) w.heap.size (fun _ => True) (.slice (some ⟨gd, 0, none⟩) out.length c5) (out.set p.toNat x) from Kd.R_putn HO.out p x)
        have k_ := am_ (Dr.set HD.out LD.out (Nat.le_refl _) NGd.out p.toNat (.int .i64 x))
        have hlen : (out.set p.toNat x).length = out.length := List.length_set
        obtain ⟨zs, hzs⟩ : ∃ zs, zs = out.set p.toNat x := ⟨_, rfl⟩
        rw [← hzs] at hlen n_
        clear HO HD HB hzs
        have HO := n_
        have HD := k_
        clear n_ k_
        have HB := am_ HD.out.below
        generalize w6.setCell ⟨gd, p.toNat, none⟩ (.int .i64 x) = w6b at HO HD HB ⊢
        have hzl : zs.length ≤ 10 := by have := HLN.out; omega
        rw [← hlen]
        rw [← hlen] at HO HCP
        clear hlen hpo p0 p2
        go_wp2_with fail
        refine (assets_c 6 (by decide) g code _ w _ HD.out.cur HB.out (by omega)).mono ?_
        rintro e w7 ⟨va, xs, rfl, ha, hl, hd⟩
        have HA := am_ ha
        have HXL := am_ hl
        clear ha hl
        have n_ := am_ (R_dr flat_int (by (with_reducible repeat first | apply ra_ | apply rn_ | apply rd_); exact HO.out) (Dr.cur (by repeat first | exact HD.out | apply Dr.alloc | apply Dr.drewN | apply Dr.drew)) (by decide) hd)
        clear HO
        have HO := n_
        clear n_
        have k_ := am_ (Dr.trans (by repeat first | exact HD.out | apply Dr.alloc | apply Dr.drewN | apply Dr.drew) hd)
        clear hd HD HB
        have HD := k_
        clear k_
        have HB := am_ HD.out.below
        go_wp2
        go_ret2
        exact ⟨_, xs, some ⟨gd, 0, none⟩, c5, zs, rfl, (by (with_reducible repeat first | apply ra_ | apply rn_ | apply rd_); exact HA.out), HXL.out, (by repeat first | exact (R_C HO.out) | with_reducible refine ca_ ?_ _ | with_reducible refine cn_ ?_ _ | with_reducible refine cd_ ?_), HCP.out, by omega, fun _ => ⟨gd, rfl⟩, (by repeat first | (with_reducible first | exact HB.out | apply ba_ | apply bn_ | apply bd_) | exact HB.out)⟩
      have q1 : (v == 1) = false := by simp [e1]
      have z1 : decide (v = 1) = false := decide_eq_false e1
      clear e1
      go_wp2_with fail
      refine (assets_c 6 (by decide) g code _ w _ HD.out.cur HB.out (by omega)).mono ?_
      rintro e w7 ⟨va, xs, rfl, ha, hl, hd⟩
      have HA := am_ ha
      have HXL := am_ hl
      clear ha hl
      have n_ := am_ (R_dr flat_int (by (with_reducible repeat first | apply ra_ | apply rn_ | apply rd_); exact HO.out) (Dr.cur (by repeat first | exact HD.out | apply Dr.alloc | apply Dr.drewN | apply Dr.drew)) (by decide) hd)
      clear HO
      have HO := n_
      clear n_
      have k_ := am_ (Dr.trans (by repeat first | exact HD.out | apply Dr.alloc | apply Dr.drewN | apply Dr.drew) hd)
      clear hd HD HB
      have HD := k_
      clear k_
      have HB := am_ HD.out.below
      go_wp2
      go_ret2
      exact ⟨_, xs, some ⟨gd, 0, none⟩, c5, out, rfl, (by (with_reducible repeat first | apply ra_ | apply rn_ | apply rd_); exact HA.out), HXL.out, (by repeat first | exact (R_C HO.out) | with_reducible refine ca_ ?_ _ | with_reducible refine cn_ ?_ _ | with_reducible refine cd_ ?_), HCP.out, by omega, fun _ => ⟨gd, rfl⟩, (by repeat first | (with_reducible first | exact HB.out | apply ba_ | apply bn_ | apply bd_) | exact HB.out)⟩
theorem bit_q (v i : Nat) (hv : v < 1048576) : Go.bits .and .i64 ((v : Int) / 2 ^ i) 1 = ((v / 2 ^ i % 2 : Nat) : Int) := by
  have e : (v : Int) / 2 ^ i = ((v / 2 ^ i : Nat) : Int) := by simp
  rw [e]
  have h := Nat.div_le_self v (2 ^ i)
  generalize v / 2 ^ i = q at h ⊢
  rw [i64_and1 _ (by omega) (by omega)]
  omega
theorem bit_one {v i : Nat} (hv : v < 1048576) (h : v / 2 ^ i % 2 = 1) : Go.bits .and .i64 ((v : Int) / 2 ^ i) 1 = 1 := by rw [bit_q v i hv, h]; rfl
theorem bit_zero {v i : Nat} (hv : v < 1048576) (h : ¬ v / 2 ^ i % 2 = 1) : Go.bits .and .i64 ((v : Int) / 2 ^ i) 1 = 0 := by rw [bit_q v i hv, show v / 2 ^ i % 2 = 0 from by omega]; rfl
set_option maxHeartbeats 8000000 in
set_option maxRecDepth 100000 in
theorem selS_c (A0 : Option Addr) (c0 : Nat) (xs : List S51) (need : Int) (w : World) (hr0 : Kd.C k51 w A0 xs.length xs) (hc0 : xs.length ≤ c0) (hn : xs.length ≤ 1048576) :
    Calls Try.prog 43 #[.slice A0 xs.length c0, .int .i64 need] w fun e w' => ∃ v, e = .returned (.tuple #[v, .bool (selA xs need).2]) ∧ (Kd.int .i64).R 3 w' w.heap.size (fun _ => True) v (selA xs need).1 ∧ Below w.heap.size w w' := by
  obtain ⟨kg, hg⟩ := roundsOf (specGood_ev xs hn)
  have HR0 := am_ hr0
  have HC0 := am_ hc0
  have HB := am_ (Below.refl w.heap.size w)
  clear hr0 hc0
  have hw := l1In_eq need 0 1000000000
  by_cases g : goodA xs = true
  rotate_left
  · rw [show goodA xs = false from by simpa using g] at hg
    have HG := am_ hg
    rw [show selA xs need = ([], false) from by unfold selA; rw [if_neg (fun v => g v.1)]]
    clear hg hw g
    go_enter Try.func43, Try.ntmps43
    go_wp2_with (((with_reducible refine gate_dst (N := 15) rfl ?_); refine Kd.R_lit (Kd.int .i64) w.heap.size 3 (w0 := w) ?hg (N := 15) ?hd (xs := []) (inner := []) (ok := fun _ => True) (okp := fun _ => True) ?hr ?hp (fun _ hk => hk) trivial (by repeat first | (with_reducible first | exact (Below.refl w.heap.size w) | apply ba_ | apply bn_ | apply bd_) | exact (Below.refl w.heap.size w)) (below_size (by repeat first | (with_reducible first | exact (Below.refl w.heap.size w) | apply ba_ | apply bn_ | apply bd_) | exact (Below.refl w.heap.size w))) (by simp) ?_; (case hd => rfl); (case hg => rfl); (case hr => first | (go_simp; done) | (go_simp; rfl)); (case hp => exact (Reps.none _ _)); intro v1 w1 ho hb hgr hnw); have HOUT := am_ ho; clear HB; have HB := am_ hb; clear ho hb hgr hnw)
    refine (spec_l17Good.calls kg _ _ xs false _ (by repeat first | exact (Kd.C_below HR0.out HB.out) | with_reducible refine ca_ ?_ _ | with_reducible refine cn_ ?_ _ | with_reducible refine cd_ ?_) HC0.out HG.out).mono ?_
    rintro e w2 ⟨rfl, hb⟩
    replace HOUT := am_ (Kd.R_below (by (with_reducible repeat first | apply ra_ | apply rn_ | apply rd_); exact HOUT.out) hb); replace HB := am_ (below_step (by repeat first | (with_reducible first | exact HB.out | apply ba_ | apply bn_ | apply bd_) | exact HB.out) hb); clear hb
    go_wp2
    go_ret2
    exact ⟨_, rfl, (by (with_reducible repeat first | apply ra_ | apply rn_ | apply rd_); exact HOUT.out), (by repeat first | (with_reducible first | exact HB.out | apply ba_ | apply bn_ | apply bd_) | exact HB.out)⟩
  rw [g] at hg
  have HG := am_ hg
  clear hg
  by_cases h10 : xs.length ≤ 10
  rotate_left
  · have cx : decide ((10 : Int) < (xs.length : Int)) = true := decide_eq_true (by omega)
    rw [show selA xs need = ([], false) from by unfold selA; rw [if_neg (fun v => h10 v.2.1)]]
    clear hw g h10
    go_enter Try.func43, Try.ntmps43
    go_wp2_with (((with_reducible refine gate_dst (N := 15) rfl ?_); refine Kd.R_lit (Kd.int .i64) w.heap.size 3 (w0 := w) ?hg (N := 15) ?hd (xs := []) (inner := []) (ok := fun _ => True) (okp := fun _ => True) ?hr ?hp (fun _ hk => hk) trivial (by repeat first | (with_reducible first | exact (Below.refl w.heap.size w) | apply ba_ | apply bn_ | apply bd_) | exact (Below.refl w.heap.size w)) (below_size (by repeat first | (with_reducible first | exact (Below.refl w.heap.size w) | apply ba_ | apply bn_ | apply bd_) | exact (Below.refl w.heap.size w))) (by simp) ?_; (case hd => rfl); (case hg => rfl); (case hr => first | (go_simp; done) | (go_simp; rfl)); (case hp => exact (Reps.none _ _)); intro v1 w1 ho hb hgr hnw); have HOUT := am_ ho; clear HB; have HB := am_ hb; clear ho hb hgr hnw)
    refine (spec_l17Good.calls kg _ _ xs true _ (by repeat first | exact (Kd.C_below HR0.out HB.out) | with_reducible refine ca_ ?_ _ | with_reducible refine cn_ ?_ _ | with_reducible refine cd_ ?_) HC0.out HG.out).mono ?_
    rintro e w2 ⟨rfl, hb⟩
    replace HOUT := am_ (Kd.R_below (by (with_reducible repeat first | apply ra_ | apply rn_ | apply rd_); exact HOUT.out) hb); replace HB := am_ (below_step (by repeat first | (with_reducible first | exact HB.out | apply ba_ | apply bn_ | apply bd_) | exact HB.out) hb); clear hb
    go_wp2
    go_ret2
    exact ⟨_, rfl, (by (with_reducible repeat first | apply ra_ | apply rn_ | apply rd_); exact HOUT.out), (by repeat first | (with_reducible first | exact HB.out | apply ba_ | apply bn_ | apply bd_) | exact HB.out)⟩
  have cx : decide ((10 : Int) < (xs.length : Int)) = false := decide_eq_false (by omega)
  by_cases hnd : 0 ≤ need ∧ need ≤ 1000000000
  rotate_left
  · rw [decide_eq_false hnd] at hw
    have HW := am_ hw
    rw [show selA xs need = ([], false) from by unfold selA; rw [if_neg (fun v => hnd v.2.2)]]
    clear hw g h10 hnd
    go_enter Try.func43, Try.ntmps43
    go_wp2_with (((with_reducible refine gate_dst (N := 15) rfl ?_); refine Kd.R_lit (Kd.int .i64) w.heap.size 3 (w0 := w) ?hg (N := 15) ?hd (xs := []) (inner := []) (ok := fun _ => True) (okp := fun _ => True) ?hr ?hp (fun _ hk => hk) trivial (by repeat first | (with_reducible first | exact (Below.refl w.heap.size w) | apply ba_ | apply bn_ | apply bd_) | exact (Below.refl w.heap.size w)) (below_size (by repeat first | (with_reducible first | exact (Below.refl w.heap.size w) | apply ba_ | apply bn_ | apply bd_) | exact (Below.refl w.heap.size w))) (by simp) ?_; (case hd => rfl); (case hg => rfl); (case hr => first | (go_simp; done) | (go_simp; rfl)); (case hp => exact (Reps.none _ _)); intro v1 w1 ho hb hgr hnw); have HOUT := am_ ho; clear HB; have HB := am_ hb; clear ho hb hgr hnw)
    refine (spec_l17Good.calls kg _ _ xs true _ (by repeat first | exact (Kd.C_below HR0.out HB.out) | with_reducible refine ca_ ?_ _ | with_reducible refine cn_ ?_ _ | with_reducible refine cd_ ?_) HC0.out HG.out).mono ?_
    rintro e w2 ⟨rfl, hb⟩
    replace HOUT := am_ (Kd.R_below (by (with_reducible repeat first | apply ra_ | apply rn_ | apply rd_); exact HOUT.out) hb); replace HB := am_ (below_step (by repeat first | (with_reducible first | exact HB.out | apply ba_ | apply bn_ | apply bd_) | exact HB.out) hb); clear hb
    go_wp2_with fail
    refine (spec_l1In.calls need 0 1000000000 false _ HW.out).mono ?_
    rintro e w3 ⟨rfl, hb0⟩
    have hb := db_ hb0
    clear hb0
    replace HOUT := am_ (Kd.R_below (by (with_reducible repeat first | apply ra_ | apply rn_ | apply rd_); exact HOUT.out) hb); replace HB := am_ (below_step (by repeat first | (with_reducible first | exact HB.out | apply ba_ | apply bn_ | apply bd_) | exact HB.out) hb); clear hb
    go_wp2
    go_ret2
    exact ⟨_, rfl, (by (with_reducible repeat first | apply ra_ | apply rn_ | apply rd_); exact HOUT.out), (by repeat first | (with_reducible first | exact HB.out | apply ba_ | apply bn_ | apply bd_) | exact HB.out)⟩
  rw [decide_eq_true hnd] at hw
  have HW := am_ hw
  obtain ⟨N, hN⟩ : ∃ N, N = 2 ^ xs.length := ⟨_, rfl⟩
  have hN1 : 1 ≤ N := by rw [hN]; exact Nat.pow_pos (by decide)
  have hN2 : N ≤ 1024 := by rw [hN]; exact Nat.le_trans (Nat.pow_le_pow_right (by decide) h10) (by decide)
  obtain ⟨bst, hbst⟩ : ∃ b, b = pick xs need N 0 (-1) 0 := ⟨_, rfl⟩
  rw [sel_end ⟨g, h10, hnd⟩, ← hN, ← hbst]
  have HF := am_ (show pick xs need (N - 0) 0 (-1) 0 = bst from hbst.symm)
  have HN := am_ hN
  have hNw : wrap64 (2 ^ xs.length) = (N : Int) := by
    rw [show (2 : Int) ^ xs.length = (N : Int) from by rw [HN.out]; simp]
    exact wrapId (by omega)
  have hu : IntKind.u64.wrap (xs.length : Int) = (xs.length : Int) := u64_small _ (by omega) (by omega)
  clear hw g hnd hN hbst
  go_enter Try.func43, Try.ntmps43
  go_wp2_with (((with_reducible refine gate_dst (N := 15) rfl ?_); refine Kd.R_lit (Kd.int .i64) w.heap.size 3 (w0 := w) ?hg (N := 15) ?hd (xs := []) (inner := []) (ok := fun _ => True) (okp := fun _ => True) ?hr ?hp (fun _ hk => hk) trivial (by repeat first | (with_reducible first | exact (Below.refl w.heap.size w) | apply ba_ | apply bn_ | apply bd_) | exact (Below.refl w.heap.size w)) (below_size (by repeat first | (with_reducible first | exact (Below.refl w.heap.size w) | apply ba_ | apply bn_ | apply bd_) | exact (Below.refl w.heap.size w))) (by simp) ?_; (case hd => rfl); (case hg => rfl); (case hr => first | (go_simp; done) | (go_simp; rfl)); (case hp => exact (Reps.none _ _)); intro v1 w1 ho hb hgr hnw); have HOUT := am_ ho; clear HB; have HB := am_ hb; clear ho hb hgr hnw)
  refine (spec_l17Good.calls kg _ _ xs true _ (by repeat first | exact (Kd.C_below HR0.out HB.out) | with_reducible refine ca_ ?_ _ | with_reducible refine cn_ ?_ _ | with_reducible refine cd_ ?_) HC0.out HG.out).mono ?_
  rintro e w2 ⟨rfl, hb⟩
  replace HOUT := am_ (Kd.R_below (by (with_reducible repeat first | apply ra_ | apply rn_ | apply rd_); exact HOUT.out) hb); replace HB := am_ (below_step (by repeat first | (with_reducible first | exact HB.out | apply ba_ | apply bn_ | apply bd_) | exact HB.out) hb); clear hb
  go_wp2_with fail
  refine (spec_l1In.calls need 0 1000000000 true _ HW.out).mono ?_
  rintro e w3 ⟨rfl, hb0⟩
  have hb := db_ hb0
  clear hb0
  replace HOUT := am_ (Kd.R_below (by (with_reducible repeat first | apply ra_ | apply rn_ | apply rd_); exact HOUT.out) hb); replace HB := am_ (below_step (by repeat first | (with_reducible first | exact HB.out | apply ba_ | apply bn_ | apply bd_) | exact HB.out) hb); clear hb
  go_wp2
  go_loopw [7, 8, 9, 10] (fun v7 v8 v9 v10 wr => ∃ (b l f : Int) (s : Nat), v7 = .int .i64 b ∧ v8 = .int .i64 l ∧ v9 = .int .i64 f ∧ Aside0 (f = if b < 0 then (0 : Int) else (pc xs.length b.toNat : Int)) ∧ v10 = .int .i64 s ∧ Aside0 (s ≤ N) ∧ Aside0 (-1 ≤ b ∧ b < (N : Int)) ∧ Aside0 (pick xs need (N - s) s b l = bst) ∧ Aside0 ((Kd.int .i64).R 3 wr w.heap.size (fun _ => True) v1 []) ∧ Aside0 (Below w.heap.size w wr)) (fun _ _ _ v10 _ => N - (intOf v10).toNat)
  case atStart => exact ⟨-1, 0, 0, 0, rfl, rfl, rfl, ⟨by rw [if_pos (by decide)]⟩, rfl, ⟨Nat.zero_le _⟩, ⟨by omega⟩, HF, HOUT, HB⟩
  case round =>
    clear HF HB HOUT
    obtain ⟨b, l, f, s, rfl, rfl, rfl, HFW, rfl, HSN, HBD, HF, HOUT, HB⟩ := hrel
    by_cases hsN : s < N
    · have cv : decide (s < N) = true := decide_eq_true hsN
      obtain ⟨SM, hSM⟩ : ∃ q, q = sumSel 0 xs s := ⟨_, rfl⟩
      obtain ⟨MN, hMN⟩ : ∃ q : Int, q = (pc xs.length s : Int) := ⟨_, rfl⟩
      have HSM0 := am_ (show sumSel 0 xs (s / 2 ^ ([] : List S51).length) = SM from by rw [hSM]; simp)
      have HMN0 := am_ (show (0 : Int) + ((blF xs.length (s / 2 ^ ([] : List S51).length) 0).length : Int) = MN from by rw [hMN]; simp [pc])
      have HMN := am_ hMN
      have HSM := am_ hSM
      clear hMN hSM
      go_wp2
      rw [hNw]
      clear hNw hu
      go_loopw [11, 12, 13] (fun v11 v12 v13 wr => ∃ (pre rest : List S51) (sum m : Int), Aside0 (xs = pre ++ rest) ∧ v13 = .int .i64 pre.length ∧ v11 = .int .i64 sum ∧ v12 = .int .i64 m ∧ Aside0 (sumSel sum rest (s / 2 ^ pre.length) = SM) ∧ Aside0 (m + ((blF rest.length (s / 2 ^ pre.length) 0).length : Int) = MN) ∧ Aside0 (0 ≤ m ∧ m ≤ pre.length) ∧ Aside0 ((Kd.int .i64).R 3 wr w.heap.size (fun _ => True) v1 []) ∧ Aside0 (Below w.heap.size w wr)) (fun _ _ v13 _ => xs.length - (intOf v13).toNat)
      case atStart => exact ⟨[], xs, 0, 0, ⟨rfl⟩, rfl, rfl, rfl, HSM0, HMN0, ⟨by simp⟩, ⟨(by (with_reducible repeat first | apply ra_ | apply rn_ | apply rd_); exact HOUT.out)⟩, ⟨(by repeat first | (with_reducible first | exact HB.out | apply ba_ | apply bn_ | apply bd_) | exact HB.out)⟩⟩
      case round =>
        clear HSM0 HMN0 HOUT HB
        obtain ⟨pre, rest, sum, m, HX, rfl, rfl, rfl, HS1, HM1, HMB, HOUT, HB⟩ := hrel
        cases rest with
        | nil =>
          have c : decide (pre.length < xs.length) = false := decide_eq_false (by have := len_nil HX.out; omega)
          obtain rfl : sum = SM := HS1.out
          obtain rfl : m = MN := by have := HM1.out; simp [blF] at this; exact this
          clear HS1 HM1 HMB
          have hstep : N - s = (N - (s + 1)) + 1 := by omega
          by_cases n1 : sum < need
          · have d1 : decide (sum < need) = true := decide_eq_true n1
            have HF1 := am_ (show pick xs need (N - (s + 1)) (s + 1) b l = bst from by have h_ := HF.out; rw [hstep, pick_keep (better_no (fun q => by rw [← HSM.out] at q; omega))] at h_; exact h_)
            clear n1 hstep
            go_wp2
            go_roundw
            case rel => exact ⟨b, l, f, s + 1, rfl, rfl, rfl, HFW, by go_num, ⟨hsN⟩, HBD, HF1, ⟨(by (with_reducible repeat first | apply ra_ | apply rn_ | apply rd_); exact HOUT.out)⟩, ⟨(by repeat first | (with_reducible first | exact HB.out | apply ba_ | apply bn_ | apply bd_) | exact HB.out)⟩⟩
            case measure => simp [intOf]; omega
          have d1 : decide (sum < need) = false := decide_eq_false n1
          by_cases n2 : b < 0
          · have d2 : decide (b < 0) = true := decide_eq_true n2
            have HF1 := am_ (show pick xs need (N - (s + 1)) (s + 1) s sum = bst from by have h_ := HF.out; rw [hstep, pick_take (better_yes (by rw [← HSM.out]; exact ⟨by omega, .inl n2⟩)), ← HSM.out] at h_; exact h_)
            clear n1 n2 hstep
            go_wp2
            go_roundw
            case rel => exact ⟨s, sum, m, s + 1, rfl, rfl, rfl, ⟨by rw [if_neg (by omega), Int.toNat_natCast]; exact HMN.out⟩, by go_num, ⟨hsN⟩, ⟨by omega⟩, HF1, ⟨(by (with_reducible repeat first | apply ra_ | apply rn_ | apply rd_); exact HOUT.out)⟩, ⟨(by repeat first | (with_reducible first | exact HB.out | apply ba_ | apply bn_ | apply bd_) | exact HB.out)⟩⟩
            case measure => simp [intOf]; omega
          have d2 : decide (b < 0) = false := decide_eq_false n2
          by_cases n3 : sum < l
          · have d3 : decide (sum < l) = true := decide_eq_true n3
            have HF1 := am_ (show pick xs need (N - (s + 1)) (s + 1) s sum = bst from by have h_ := HF.out; rw [hstep, pick_take (better_yes (by rw [← HSM.out]; exact ⟨by omega, .inr (.inl n3)⟩)), ← HSM.out] at h_; exact h_)
            clear n1 n2 n3 hstep
            go_wp2
            go_roundw
            case rel => exact ⟨s, sum, m, s + 1, rfl, rfl, rfl, ⟨by rw [if_neg (by omega), Int.toNat_natCast]; exact HMN.out⟩, by go_num, ⟨hsN⟩, ⟨by omega⟩, HF1, ⟨(by (with_reducible repeat first | apply ra_ | apply rn_ | apply rd_); exact HOUT.out)⟩, ⟨(by repeat first | (with_reducible first | exact HB.out | apply ba_ | apply bn_ | apply bd_) | exact HB.out)⟩⟩
            case measure => simp [intOf]; omega
          have d3 : decide (sum < l) = false := decide_eq_false n3
          by_cases n4 : sum = l
          rotate_left
          · have d4 : (sum == l) = false := by simp [n4]
            have d5 : decide (sum = l) = false := decide_eq_false n4
            have HF1 := am_ (show pick xs need (N - (s + 1)) (s + 1) b l = bst from by have h_ := HF.out; rw [hstep, pick_keep (better_no (fun q => by rw [← HSM.out] at q; rcases q.2 with q | q | q <;> omega))] at h_; exact h_)
            clear n1 n2 n3 n4 hstep
            go_wp2
            go_roundw
            case rel => exact ⟨b, l, f, s + 1, rfl, rfl, rfl, HFW, by go_num, ⟨hsN⟩, HBD, HF1, ⟨(by (with_reducible repeat first | apply ra_ | apply rn_ | apply rd_); exact HOUT.out)⟩, ⟨(by repeat first | (with_reducible first | exact HB.out | apply ba_ | apply bn_ | apply bd_) | exact HB.out)⟩⟩
            case measure => simp [intOf]; omega
          have d4 : (sum == l) = true := by simp [n4]
          have d5 : decide (sum = l) = true := decide_eq_true n4
          have hfe : f = (pc xs.length b.toNat : Int) := by rw [HFW.out, if_neg n2]
          have hme := HMN.out
          by_cases n6 : m < f
          · have d6 : decide (m < f) = true := decide_eq_true n6
            have HF1 := am_ (show pick xs need (N - (s + 1)) (s + 1) s sum = bst from by have h_ := HF.out; rw [hstep, pick_take (better_yes (by rw [← HSM.out]; exact ⟨by omega, .inr (.inr ⟨n4, by omega⟩)⟩)), ← HSM.out] at h_; exact h_)
            clear n1 n2 n3 n4 n6 hstep hfe hme
            go_wp2
            go_roundw
            case rel => exact ⟨s, sum, m, s + 1, rfl, rfl, rfl, ⟨by rw [if_neg (by omega), Int.toNat_natCast]; exact HMN.out⟩, by go_num, ⟨hsN⟩, ⟨by omega⟩, HF1, ⟨(by (with_reducible repeat first | apply ra_ | apply rn_ | apply rd_); exact HOUT.out)⟩, ⟨(by repeat first | (with_reducible first | exact HB.out | apply ba_ | apply bn_ | apply bd_) | exact HB.out)⟩⟩
            case measure => simp [intOf]; omega
          have d6 : decide (m < f) = false := decide_eq_false n6
          have HF1 := am_ (show pick xs need (N - (s + 1)) (s + 1) b l = bst from by have h_ := HF.out; rw [hstep, pick_keep (better_no (fun q => by rw [← HSM.out] at q; rcases q.2 with q | q | q <;> omega))] at h_; exact h_)
          clear n1 n2 n3 n4 n6 hstep hfe hme
          go_wp2
          go_roundw
          case rel => exact ⟨b, l, f, s + 1, rfl, rfl, rfl, HFW, by go_num, ⟨hsN⟩, HBD, HF1, ⟨(by (with_reducible repeat first | apply ra_ | apply rn_ | apply rd_); exact HOUT.out)⟩, ⟨(by repeat first | (with_reducible first | exact HB.out | apply ba_ | apply bn_ | apply bd_) | exact HB.out)⟩⟩
          case measure => simp [intOf]; omega
        | cons a t =>
          have hlt := len_cons HX.out
          have hpl : (pre.length : Int) < xs.length := by omega
          obtain ⟨ad, e0, hx0, hx1, hx2⟩ := at_T51 HR0.out (pre.length : Int) (by omega) hpl
          rw [rd_T51_at HX.out rfl] at hx0 hx1 hx2
          simp only [Int.toNat_natCast] at hx0 hx1 hx2
          cases e0
          replace hx0 := (HB.out.cell (World.block_lt_of_cell? w _ hx0)).trans hx0
          replace hx1 := (HB.out.cell (World.block_lt_of_cell? w _ hx1)).trans hx1
          replace hx2 := (HB.out.cell (World.block_lt_of_cell? w _ hx2)).trans hx2
          have c : decide (pre.length < xs.length) = true := decide_eq_true (by omega)
          have hup : IntKind.u64.wrap (pre.length : Int) = (pre.length : Int) := u64_small _ (by omega) (by omega)
          have hq : s / 2 ^ pre.length / 2 = s / 2 ^ (pre.length + 1) := (div_pow_succ s pre.length).symm
          have hmb := HMB.out
          have hs1 := HS1.out
          have hm1 := HM1.out
          have hlen := blF_len_any t.length (s / 2 ^ (pre.length + 1)) (0 + 1) 0
          rw [sumSel, hq] at hs1
          rw [List.length_cons, blF, hq, List.length_append, hlen] at hm1
          clear hlt hq hlen
          by_cases hbt : s / 2 ^ pre.length % 2 = 1
          · have hbit := bit_one (v := s) (i := pre.length) (by omega) hbt
            rw [if_pos hbt] at hs1 hm1
            rw [List.length_singleton] at hm1
            have HS2 := am_ hs1
            have HM2 := am_ (show (m + 1) + ((blF t.length (s / 2 ^ (pre.length + 1)) 0).length : Int) = MN from by rw [← hm1]; push_cast; omega)
            clear hs1 hm1 hbt
            go_wp2_with fail
            clear hx0 hx1 hx2
            refine (spec_l17Value.calls _ _ _ _ _ (specValue_eq a)).mono ?_
            rintro e w4 ⟨rfl, hb⟩
            replace HOUT := am_ (Kd.R_below (by (with_reducible repeat first | apply ra_ | apply rn_ | apply rd_); exact HOUT.out) hb); replace HB := am_ (below_step (by repeat first | (with_reducible first | exact HB.out | apply ba_ | apply bn_ | apply bd_) | exact HB.out) hb); clear hb
            go_wp2
            go_roundw
            case rel => exact ⟨pre ++ [a], t, wrap64 (sum + valW a), m + 1, ⟨snoc HX.out⟩, by rw [len_snoc], by go_num, by go_num, ⟨by rw [List.length_append, List.length_singleton]; exact HS2.out⟩, ⟨by rw [List.length_append, List.length_singleton]; exact HM2.out⟩, ⟨by rw [List.length_append, List.length_singleton]; push_cast; omega⟩, ⟨(by (with_reducible repeat first | apply ra_ | apply rn_ | apply rd_); exact HOUT.out)⟩, ⟨(by repeat first | (with_reducible first | exact HB.out | apply ba_ | apply bn_ | apply bd_) | exact HB.out)⟩⟩
            case measure => simp [intOf]; omega
          · have hbit := bit_zero (v := s) (i := pre.length) (by omega) hbt
            rw [if_neg hbt] at hs1 hm1
            rw [List.length_nil] at hm1
            have HS2 := am_ hs1
            have HM2 := am_ (show m + ((blF t.length (s / 2 ^ (pre.length + 1)) 0).length : Int) = MN from by rw [← hm1]; push_cast; omega)
            clear hs1 hm1 hbt
            clear hx0 hx1 hx2
            go_wp2
            go_roundw
            case rel => exact ⟨pre ++ [a], t, sum, m, ⟨snoc HX.out⟩, by rw [len_snoc], rfl, rfl, ⟨by rw [List.length_append, List.length_singleton]; exact HS2.out⟩, ⟨by rw [List.length_append, List.length_singleton]; exact HM2.out⟩, ⟨by rw [List.length_append, List.length_singleton]; push_cast; omega⟩, ⟨(by (with_reducible repeat first | apply ra_ | apply rn_ | apply rd_); exact HOUT.out)⟩, ⟨(by repeat first | (with_reducible first | exact HB.out | apply ba_ | apply bn_ | apply bd_) | exact HB.out)⟩⟩
            case measure => simp [intOf]; omega
    · obtain rfl : N = s := by have := HSN.out; omega
      have cv : decide (N < N) = false := decide_eq_false (by omega)
      have hF := HF.out
      rw [Nat.sub_self, pick] at hF
      obtain rfl : b = bst := hF
      have hbd := HBD.out
      clear HF HSN HFW
      by_cases n2 : b < 0
      · have d2 : decide (b < 0) = true := decide_eq_true n2
        have HE := am_ (show endSel xs.length b = ([], false) from by unfold endSel; rw [if_pos n2])
        clear n2 hbd
        go_wp2
        go_ret2
        rw [HE.out]
        exact ⟨_, rfl, (by (with_reducible repeat first | apply ra_ | apply rn_ | apply rd_); exact HOUT.out), (by repeat first | (with_reducible first | exact HB.out | apply ba_ | apply bn_ | apply bd_) | exact HB.out)⟩
      have d2 : decide (b < 0) = false := decide_eq_false n2
      obtain ⟨b', rfl⟩ : ∃ b' : Nat, b = (b' : Int) := ⟨b.toNat, by omega⟩
      have HEN := am_ (show endSel xs.length (b' : Int) = (blF xs.length b' 0, true) from by unfold endSel; rw [if_neg n2, Int.toNat_natCast])
      have hbN : b' < N := by omega
      clear n2 hbd
      go_wp2
      rw [hNw]
      clear hNw hu
      go_loopw [6, 14] (fun v6 v14 wr => ∃ (i : Nat) (out : List Int), v14 = .int .i64 i ∧ Aside0 (i ≤ xs.length) ∧ Aside0 (out ++ blF (xs.length - i) (b' / 2 ^ i) i = blF xs.length b' 0) ∧ Aside0 (out.length ≤ i) ∧ Aside0 ((Kd.int .i64).R 3 wr w.heap.size (fun _ => True) v6 out) ∧ Aside0 (Below w.heap.size w wr)) (fun _ v14 _ => xs.length - (intOf v14).toNat)
      case atStart => exact ⟨0, [], rfl, ⟨Nat.zero_le _⟩, ⟨by simp⟩, ⟨by simp⟩, HOUT, HB⟩
      case round =>
        clear HOUT HB
        obtain ⟨i, out, rfl, HI, HE, HL, HOUT, HB⟩ := hrel
        by_cases hi : i < xs.length
        · have ci : decide (i < xs.length) = true := decide_eq_true hi
          have hui : IntKind.u64.wrap (i : Int) = (i : Int) := u64_small _ (by omega) (by omega)
          have hE := HE.out
          have hol : out.length ≤ 10 := by have := HL.out; omega
          rw [show xs.length - i = (xs.length - (i + 1)) + 1 from by omega, blF, ← div_pow_succ] at hE
          by_cases hbt : b' / 2 ^ i % 2 = 1
          · have hbit := bit_one (v := b') (i := i) (by omega) hbt
            rw [if_pos hbt, ← List.append_assoc] at hE
            have HE1 := am_ hE
            clear hE hbt
            go_wp2_with ((with_reducible refine gate_builtin (b := .append) (xs := #[.tmp 97, .tmp 99]) rfl ?_); at_builtin; refine Kd.R_append (Kd.int .i64) (w0 := w) w.heap.size rfl (.tmp 97) (.tmp 99) 39 3 (.int .i64 0) 8 rfl Try.underlying39 infoI rfl (by decide) (by omega) u6 out (i : Int) [.int .i64 i] (fun _ => True) (fun _ => False) rfl rfl ?aP (fun _ hk => hk.elim) ?aF ?aO ?aB ?aS ?aL ?_; (case aP => exact rfl); (case aB => exact (by repeat first | (with_reducible first | exact HB.out | apply ba_ | apply bn_ | apply bd_) | exact HB.out)); (case aF => exact (fun _ _ => trivial)); (case aO => exact (by (with_reducible repeat first | apply ra_ | apply rn_ | apply rd_); exact HOUT.out)); (case aS => exact (below_size (by repeat first | (with_reducible first | exact HB.out | apply ba_ | apply bn_ | apply bd_) | exact HB.out))); (case aL => omega); intro v1 w1 ho hb hg hat)
            go_roundw
            case rel => exact ⟨i + 1, out ++ [(i : Int)], by go_num, ⟨hi⟩, HE1, ⟨by rw [List.length_append, List.length_singleton]; have := HL.out; omega⟩, ⟨(by (with_reducible repeat first | apply ra_ | apply rn_ | apply rd_); exact ho)⟩, ⟨(by repeat first | (with_reducible first | exact hb | apply ba_ | apply bn_ | apply bd_) | exact hb)⟩⟩
            case measure => simp [intOf]; omega
          · have hbit := bit_zero (v := b') (i := i) (by omega) hbt
            rw [if_neg hbt, List.nil_append] at hE
            have HE1 := am_ hE
            clear hE hbt
            go_wp2
            go_roundw
            case rel => exact ⟨i + 1, out, by go_num, ⟨hi⟩, HE1, ⟨by have := HL.out; omega⟩, ⟨(by (with_reducible repeat first | apply ra_ | apply rn_ | apply rd_); exact HOUT.out)⟩, ⟨(by repeat first | (with_reducible first | exact HB.out | apply ba_ | apply bn_ | apply bd_) | exact HB.out)⟩⟩
            case measure => simp [intOf]; omega
        · obtain rfl : xs.length = i := by have := HI.out; omega
          have ci : decide (xs.length < xs.length) = false := decide_eq_false (by omega)
          have hE := HE.out
          rw [Nat.sub_self, blF, List.append_nil] at hE
          have HE1 := am_ hE
          clear hE
          go_wp2
          go_ret2
          rw [HEN.out, ← HE1.out]
          exact ⟨_, rfl, (by (with_reducible repeat first | apply ra_ | apply rn_ | apply rd_); exact HOUT.out), (by repeat first | (with_reducible first | exact HB.out | apply ba_ | apply bn_ | apply bd_) | exact HB.out)⟩
theorem bitsI_q (q : Nat) (h : q < 1048576) : Go.bits .and .i64 (q : Int) 1 = ((q % 2 : Nat) : Int) := by
  rw [i64_and1 _ (by omega) (by omega)]; omega
set_option maxHeartbeats 8000000 in
set_option maxRecDepth 100000 in
theorem bitsOf_c (s n : Nat) (w : World) (hs : s < 2 ^ n) (hn : n ≤ 20) :
    Calls Try.prog 71 #[.int .i64 s] w fun e w' => ∃ v, e = .returned v ∧ (Kd.int .i64).R 3 w' w.heap.size (fun _ => True) v (blF n s 0) ∧ Below w.heap.size w w' := by
  have hs20 : s < 1048576 := Nat.lt_of_lt_of_le hs (Nat.le_trans (Nat.pow_le_pow_right (by decide) hn) (by decide))
  have HS := am_ hs
  clear hs
  go_enter Try.func71, Try.ntmps71
  go_wp2_with ((with_reducible refine gate_dst (N := 5) rfl ?_); refine Kd.R_lit (Kd.int .i64) w.heap.size 3 (w0 := w) ?hg (N := 5) ?hd (xs := []) (inner := []) (ok := fun _ => True) (okp := fun _ => True) ?hr ?hp (fun _ hk => hk) trivial (by repeat first | (with_reducible first | exact (Below.refl w.heap.size w) | apply ba_ | apply bn_ | apply bd_) | exact (Below.refl w.heap.size w)) (below_size (by repeat first | (with_reducible first | exact (Below.refl w.heap.size w) | apply ba_ | apply bn_ | apply bd_) | exact (Below.refl w.heap.size w))) (by simp) ?_; (case hd => rfl); (case hg => rfl); (case hr => first | (go_simp; done) | (go_simp; rfl)); (case hp => exact (Reps.none _ _)); intro v1 w1 ho hb hgr hnw)
  have HOUT := am_ ho
  have HB := am_ hb
  clear ho hb hgr hnw
  go_loopw [3, 4] (fun v3 v4 wr => ∃ (i : Nat) (out : List Int), v4 = .int .i64 i ∧ Aside0 (i ≤ n) ∧ Aside0 (out ++ blF (n - i) (s / 2 ^ i) i = blF n s 0) ∧ Aside0 (out.length ≤ i) ∧ Aside0 ((Kd.int .i64).R 3 wr w.heap.size (fun _ => True) v3 out) ∧ Aside0 (Below w.heap.size w wr)) (fun _ v4 _ => n - (intOf v4).toNat)
  case atStart => exact ⟨0, [], rfl, ⟨Nat.zero_le _⟩, ⟨by simp⟩, ⟨by simp⟩, HOUT, HB⟩
  case round =>
    clear HOUT HB
    obtain ⟨i, out, rfl, HI, HE, HL, HOUT, HB⟩ := hrel
    have hin := HI.out
    have hE := HE.out
    have hol : out.length ≤ 20 := by have := HL.out; omega
    have hqe : (s : Int) / 2 ^ i = ((s / 2 ^ i : Nat) : Int) := by simp
    have hq20 : s / 2 ^ i < 1048576 := Nat.lt_of_le_of_lt (Nat.div_le_self _ _) hs20
    have hqn : s / 2 ^ i ≠ 0 → i < n := fun h => by
      rcases Nat.lt_or_ge i n with q | q
      · exact q
      · exact absurd (Nat.div_eq_of_lt (Nat.lt_of_lt_of_le HS.out (Nat.pow_le_pow_right (by decide) q))) h
    have hsc : s / 2 ^ (i + 1) = s / 2 ^ i / 2 := div_pow_succ s i
    obtain ⟨q, hq⟩ : ∃ q, q = s / 2 ^ i := ⟨_, rfl⟩
    rw [← hq] at hqe hq20 hqn hsc hE
    clear hq
    by_cases hz : q = 0
    · subst hz
      rw [blF_zero, List.append_nil] at hE
      have HE1 := am_ hE
      clear hE hqn hsc hq20
      go_wp2
      go_ret
      rw [← HE1.out]
      exact ⟨_, rfl, (by (with_reducible repeat first | apply ra_ | apply rn_ | apply rd_); exact HOUT.out), (by repeat first | (with_reducible first | exact HB.out | apply ba_ | apply bn_ | apply bd_) | exact HB.out)⟩
    · have hin1 := hqn hz
      have hq0 : 0 < q := by omega
      have cq : decide (0 < q) = true := decide_eq_true hq0
      rw [show n - i = (n - (i + 1)) + 1 from by omega, blF, ← hsc] at hE
      have hbq := bitsI_q q hq20
      by_cases hbt : q % 2 = 1
      · rw [hbt] at hbq
        have hbit : Go.bits .and .i64 (q : Int) 1 = 1 := hbq
        rw [if_pos hbt, ← List.append_assoc] at hE
        have HE1 := am_ hE
        clear hE hbt hbq hqn hsc
        go_wp2_with ((with_reducible refine gate_builtin (b := .append) (xs := #[.tmp 17, .tmp 19]) rfl ?_); at_builtin; refine Kd.R_append (Kd.int .i64) (w0 := w) w.heap.size rfl (.tmp 17) (.tmp 19) 39 3 (.int .i64 0) 8 rfl Try.underlying39 infoI rfl (by decide) (by omega) u3 out (i : Int) [.int .i64 i] (fun _ => True) (fun _ => False) rfl rfl ?aP (fun _ hk => hk.elim) ?aF ?aO ?aB ?aS ?aL ?_; (case aP => exact rfl); (case aB => exact (by repeat first | (with_reducible first | exact HB.out | apply ba_ | apply bn_ | apply bd_) | exact HB.out)); (case aF => exact (fun _ _ => trivial)); (case aO => exact (by (with_reducible repeat first | apply ra_ | apply rn_ | apply rd_); exact HOUT.out)); (case aS => exact (below_size (by repeat first | (with_reducible first | exact HB.out | apply ba_ | apply bn_ | apply bd_) | exact HB.out))); (case aL => omega); intro v1 w1 ho hb hg hat)
        go_roundw
        case rel => exact ⟨i + 1, out ++ [(i : Int)], by go_num, ⟨hin1⟩, HE1, ⟨by rw [List.length_append, List.length_singleton]; have := HL.out; omega⟩, ⟨(by (with_reducible repeat first | apply ra_ | apply rn_ | apply rd_); exact ho)⟩, ⟨(by repeat first | (with_reducible first | exact hb | apply ba_ | apply bn_ | apply bd_) | exact hb)⟩⟩
        case measure => simp [intOf]; omega
      · rw [show q % 2 = 0 from by omega] at hbq
        have hbit : Go.bits .and .i64 (q : Int) 1 = 0 := hbq
        rw [if_neg hbt, List.nil_append] at hE
        have HE1 := am_ hE
        clear hE hbt hbq hqn hsc
        go_wp2
        go_roundw
        case rel => exact ⟨i + 1, out, by go_num, ⟨hin1⟩, HE1, ⟨by have := HL.out; omega⟩, ⟨(by (with_reducible repeat first | apply ra_ | apply rn_ | apply rd_); exact HOUT.out)⟩, ⟨(by repeat first | (with_reducible first | exact HB.out | apply ba_ | apply bn_ | apply bd_) | exact HB.out)⟩⟩
        case measure => simp [intOf]; omega
set_option maxHeartbeats 8000000 in
set_option maxRecDepth 100000 in
theorem selI_c (A0 : Option Addr) (c0 : Nat) (xs : List S51) (need : Int) (w : World) (hr0 : Kd.C k51 w A0 xs.length xs) (hc0 : xs.length ≤ c0) (hn : xs.length ≤ 1048576) :
    Calls Try.prog 44 #[.slice A0 xs.length c0, .int .i64 need] w fun e w' => ∃ v, e = .returned (.tuple #[v, .bool (selA xs need).2]) ∧ (Kd.int .i64).R 3 w' w.heap.size (fun _ => True) v (selA xs need).1 ∧ Below w.heap.size w w' := by
  obtain ⟨kg, hg⟩ := roundsOf (implValid_ev xs hn)
  have HR0 := am_ hr0
  have HC0 := am_ hc0
  have HB := am_ (Below.refl w.heap.size w)
  clear hr0 hc0
  have hw := within_eq need 0 1000000000
  by_cases g : goodA xs = true
  rotate_left
  · rw [show goodA xs = false from by simpa using g] at hg
    have HG := am_ hg
    rw [show selA xs need = ([], false) from by unfold selA; rw [if_neg (fun v => g v.1)]]
    clear hg hw g
    go_enter Try.func44, Try.ntmps44
    go_wp2_with fail
    refine (impl_IsValidAssets.calls kg _ _ xs false _ (by repeat first | exact (Kd.C_below HR0.out HB.out) | with_reducible refine ca_ ?_ _ | with_reducible refine cn_ ?_ _ | with_reducible refine cd_ ?_) HC0.out HG.out).mono ?_
    rintro e w2 ⟨rfl, hb⟩
    replace HB := am_ (below_step (by repeat first | (with_reducible first | exact HB.out | apply ba_ | apply bn_ | apply bd_) | exact HB.out) hb); clear hb
    go_wp2
    go_ret2
    exact ⟨_, rfl, Kd.R_nil _ _ _ _ _, (by repeat first | (with_reducible first | exact HB.out | apply ba_ | apply bn_ | apply bd_) | exact HB.out)⟩
  rw [g] at hg
  have HG := am_ hg
  clear hg
  by_cases h10 : xs.length ≤ 10
  rotate_left
  · have cx : decide ((10 : Int) < (xs.length : Int)) = true := decide_eq_true (by omega)
    rw [show selA xs need = ([], false) from by unfold selA; rw [if_neg (fun v => h10 v.2.1)]]
    clear hw g h10
    go_enter Try.func44, Try.ntmps44
    go_wp2_with fail
    refine (impl_IsValidAssets.calls kg _ _ xs true _ (by repeat first | exact (Kd.C_below HR0.out HB.out) | with_reducible refine ca_ ?_ _ | with_reducible refine cn_ ?_ _ | with_reducible refine cd_ ?_) HC0.out HG.out).mono ?_
    rintro e w2 ⟨rfl, hb⟩
    replace HB := am_ (below_step (by repeat first | (with_reducible first | exact HB.out | apply ba_ | apply bn_ | apply bd_) | exact HB.out) hb); clear hb
    go_wp2
    go_ret2
    exact ⟨_, rfl, Kd.R_nil _ _ _ _ _, (by repeat first | (with_reducible first | exact HB.out | apply ba_ | apply bn_ | apply bd_) | exact HB.out)⟩
  have cx : decide ((10 : Int) < (xs.length : Int)) = false := decide_eq_false (by omega)
  by_cases hnd : 0 ≤ need ∧ need ≤ 1000000000
  rotate_left
  · rw [decide_eq_false hnd] at hw
    have HW := am_ hw
    rw [show selA xs need = ([], false) from by unfold selA; rw [if_neg (fun v => hnd v.2.2)]]
    clear hw g h10 hnd
    go_enter Try.func44, Try.ntmps44
    go_wp2_with fail
    refine (impl_IsValidAssets.calls kg _ _ xs true _ (by repeat first | exact (Kd.C_below HR0.out HB.out) | with_reducible refine ca_ ?_ _ | with_reducible refine cn_ ?_ _ | with_reducible refine cd_ ?_) HC0.out HG.out).mono ?_
    rintro e w2 ⟨rfl, hb⟩
    replace HB := am_ (below_step (by repeat first | (with_reducible first | exact HB.out | apply ba_ | apply bn_ | apply bd_) | exact HB.out) hb); clear hb
    go_wp2_with fail
    refine (impl_within.calls need 0 1000000000 false _ HW.out).mono ?_
    rintro e w3 ⟨rfl, hb0⟩
    have hb := db_ hb0
    clear hb0
    replace HB := am_ (below_step (by repeat first | (with_reducible first | exact HB.out | apply ba_ | apply bn_ | apply bd_) | exact HB.out) hb); clear hb
    go_wp2
    go_ret2
    exact ⟨_, rfl, Kd.R_nil _ _ _ _ _, (by repeat first | (with_reducible first | exact HB.out | apply ba_ | apply bn_ | apply bd_) | exact HB.out)⟩
  rw [decide_eq_true hnd] at hw
  have HW := am_ hw
  obtain ⟨N, hN⟩ : ∃ N, N = 2 ^ xs.length := ⟨_, rfl⟩
  have hN1 : 1 ≤ N := by rw [hN]; exact Nat.pow_pos (by decide)
  have hN2 : N ≤ 1024 := by rw [hN]; exact Nat.le_trans (Nat.pow_le_pow_right (by decide) h10) (by decide)
  obtain ⟨bst, hbst⟩ : ∃ b, b = pick xs need N 0 (-1) 0 := ⟨_, rfl⟩
  rw [sel_end ⟨g, h10, hnd⟩, ← hN, ← hbst]
  have HF := am_ (show pick xs need (N - 0) 0 (-1) 0 = bst from hbst.symm)
  have HN := am_ hN
  have hNw : wrap64 (2 ^ xs.length) = (N : Int) := by
    rw [show (2 : Int) ^ xs.length = (N : Int) from by rw [HN.out]; simp]
    exact wrapId (by omega)
  have hu : IntKind.u64.wrap (xs.length : Int) = (xs.length : Int) := u64_small _ (by omega) (by omega)
  clear hw g hnd hN hbst
  go_enter Try.func44, Try.ntmps44
  go_wp2_with fail
  refine (impl_IsValidAssets.calls kg _ _ xs true _ (by repeat first | exact (Kd.C_below HR0.out HB.out) | with_reducible refine ca_ ?_ _ | with_reducible refine cn_ ?_ _ | with_reducible refine cd_ ?_) HC0.out HG.out).mono ?_
  rintro e w2 ⟨rfl, hb⟩
  replace HB := am_ (below_step (by repeat first | (with_reducible first | exact HB.out | apply ba_ | apply bn_ | apply bd_) | exact HB.out) hb); clear hb
  go_wp2_with fail
  refine (impl_within.calls need 0 1000000000 true _ HW.out).mono ?_
  rintro e w3 ⟨rfl, hb0⟩
  have hb := db_ hb0
  clear hb0
  replace HB := am_ (below_step (by repeat first | (with_reducible first | exact HB.out | apply ba_ | apply bn_ | apply bd_) | exact HB.out) hb); clear hb
  go_wp2
  rw [hNw]
  clear hNw hu
  go_loopw [6, 7, 28] (fun v7 v8 v10 wr => ∃ (b l : Int) (s : Nat), v7 = .int .i64 b ∧ v8 = .int .i64 l ∧ v10 = .int .i64 s ∧ Aside0 (s ≤ N) ∧ Aside0 (-1 ≤ b ∧ b < (N : Int)) ∧ Aside0 (pick xs need (N - s) s b l = bst) ∧ Aside0 (Below w.heap.size w wr)) (fun _ _ v10 _ => N - (intOf v10).toNat)
  case atStart => exact ⟨-1, 0, 0, rfl, rfl, rfl, ⟨Nat.zero_le _⟩, ⟨by omega⟩, HF, HB⟩
  case round =>
    clear HF HB
    obtain ⟨b, l, s, rfl, rfl, rfl, HSN, HBD, HF, HB⟩ := hrel
    by_cases hsN : s < N
    · have cv : decide (s < N) = true := decide_eq_true hsN
      obtain ⟨SM, hSM⟩ : ∃ q, q = sumSel 0 xs s := ⟨_, rfl⟩
      have HSM := am_ hSM
      have hbl := blF_length xs.length s 0
      obtain ⟨B, hB⟩ : ∃ B, B = blF xs.length s 0 := ⟨_, rfl⟩
      have HS0 := am_ (show sumI xs 0 B = SM from by rw [hB, hSM]; exact sumI_eq xs xs [] 0 s rfl)
      have HBI := am_ (show ∀ k ∈ B, 0 ≤ k ∧ k < (xs.length : Int) from fun k hk => by rw [hB] at hk; have := blF_range xs.length s 0 k hk; omega)
      rw [← hB] at hbl
      have HBB := am_ hB
      go_wp2_with fail
      refine (bitsOf_c s xs.length _ (by rw [← HN.out]; exact hsN) (by omega)).mono ?_
      rw [← HBB.out]
      rintro e w4 ⟨vb, rfl, ho, hb⟩
      have HV := am_ (Kd.R_lower ho (show w.heap.size ≤ _ from below_size (by repeat first | (with_reducible first | exact HB.out | apply ba_ | apply bn_ | apply bd_) | exact HB.out)))
      replace HB := am_ (below_step (by repeat first | (with_reducible first | exact HB.out | apply ba_ | apply bn_ | apply bd_) | exact HB.out) hb); clear hb
      clear ho hB hSM
      obtain ⟨Ab, cb, eb⟩ := Kd.R_slice HV.out
      subst eb
      go_wp2
      go_loopw [9, 34] (fun v9 v34 wr => ∃ (done rest : List Int) (sum : Int), Aside0 (B = done ++ rest) ∧ v34 = .int .i64 done.length ∧ v9 = .int .i64 sum ∧ Aside0 (sumI xs sum rest = SM) ∧ Aside0 ((Kd.int .i64).R 3 wr w.heap.size (fun _ => True) (.slice Ab B.length cb) B) ∧ Aside0 (Below w.heap.size w wr)) (fun _ v34 _ => B.length - (intOf v34).toNat)
      case atStart => exact ⟨[], B, 0, ⟨rfl⟩, rfl, rfl, HS0, ⟨(by (with_reducible repeat first | apply ra_ | apply rn_ | apply rd_); exact HV.out)⟩, ⟨(by repeat first | (with_reducible first | exact HB.out | apply ba_ | apply bn_ | apply bd_) | exact HB.out)⟩⟩
      case round =>
        clear HS0 HV HB
        obtain ⟨done, rest, sum, HX, rfl, rfl, HS1, HV, HB⟩ := hrel
        cases rest with
        | nil =>
          have c : decide (done.length < B.length) = false := decide_eq_false (by have := len_nil HX.out; omega)
          obtain rfl : sum = SM := HS1.out
          clear HS1 HV
          have hstep : N - s = (N - (s + 1)) + 1 := by omega
          by_cases n1 : sum < need
          · have d1 : decide (sum < need) = true := decide_eq_true n1
            have HF1 := am_ (show pick xs need (N - (s + 1)) (s + 1) b l = bst from by have h_ := HF.out; rw [hstep, pick_keep (better_no (fun q => by rw [← HSM.out] at q; omega))] at h_; exact h_)
            clear n1 hstep
            go_wp2
            go_roundw
            case rel => exact ⟨b, l, s + 1, rfl, rfl, by go_num, ⟨hsN⟩, HBD, HF1, ⟨(by repeat first | (with_reducible first | exact HB.out | apply ba_ | apply bn_ | apply bd_) | exact HB.out)⟩⟩
            case measure => simp [intOf]; omega
          have d1 : decide (sum < need) = false := decide_eq_false n1
          by_cases n2 : b < 0
          · have d2 : decide (b < 0) = true := decide_eq_true n2
            have HF1 := am_ (show pick xs need (N - (s + 1)) (s + 1) s sum = bst from by have h_ := HF.out; rw [hstep, pick_take (better_yes (by rw [← HSM.out]; exact ⟨by omega, .inl n2⟩)), ← HSM.out] at h_; exact h_)
            clear n1 n2 hstep
            go_wp2
            go_roundw
            case rel => exact ⟨s, sum, s + 1, rfl, rfl, by go_num, ⟨hsN⟩, ⟨by omega⟩, HF1, ⟨(by repeat first | (with_reducible first | exact HB.out | apply ba_ | apply bn_ | apply bd_) | exact HB.out)⟩⟩
            case measure => simp [intOf]; omega
          have d2 : decide (b < 0) = false := decide_eq_false n2
          by_cases n3 : sum < l
          · have d3 : decide (sum < l) = true := decide_eq_true n3
            have HF1 := am_ (show pick xs need (N - (s + 1)) (s + 1) s sum = bst from by have h_ := HF.out; rw [hstep, pick_take (better_yes (by rw [← HSM.out]; exact ⟨by omega, .inr (.inl n3)⟩)), ← HSM.out] at h_; exact h_)
            clear n1 n2 n3 hstep
            go_wp2
            go_roundw
            case rel => exact ⟨s, sum, s + 1, rfl, rfl, by go_num, ⟨hsN⟩, ⟨by omega⟩, HF1, ⟨(by repeat first | (with_reducible first | exact HB.out | apply ba_ | apply bn_ | apply bd_) | exact HB.out)⟩⟩
            case measure => simp [intOf]; omega
          have d3 : decide (sum < l) = false := decide_eq_false n3
          by_cases n4 : sum = l
          rotate_left
          · have d4 : (sum == l) = false := by simp [n4]
            have d5 : decide (sum = l) = false := decide_eq_false n4
            have HF1 := am_ (show pick xs need (N - (s + 1)) (s + 1) b l = bst from by have h_ := HF.out; rw [hstep, pick_keep (better_no (fun q => by rw [← HSM.out] at q; rcases q.2 with q | q | q <;> omega))] at h_; exact h_)
            clear n1 n2 n3 n4 hstep
            go_wp2
            go_roundw
            case rel => exact ⟨b, l, s + 1, rfl, rfl, by go_num, ⟨hsN⟩, HBD, HF1, ⟨(by repeat first | (with_reducible first | exact HB.out | apply ba_ | apply bn_ | apply bd_) | exact HB.out)⟩⟩
            case measure => simp [intOf]; omega
          have d4 : (sum == l) = true := by simp [n4]
          have d5 : decide (sum = l) = true := decide_eq_true n4
          have hbd := HBD.out
          obtain ⟨b', rfl⟩ : ∃ b' : Nat, b = (b' : Int) := ⟨b.toNat, by omega⟩
          have hus : IntKind.u64.wrap (s : Int) = (s : Int) := u64_small _ (by omega) (by omega)
          have hub : IntKind.u64.wrap (b' : Int) = (b' : Int) := u64_small _ (by omega) (by omega)
          have ho1 := onesCount_ev xs.length s h10 (by rw [← HN.out]; exact hsN)
          have ho2 := onesCount_ev xs.length b' h10 (by rw [← HN.out]; omega)
          rw [hus] at ho1
          rw [hub] at ho2
          obtain ⟨p1, hp1⟩ : ∃ q : Int, q = (pc xs.length s : Int) := ⟨_, rfl⟩
          obtain ⟨p2, hp2⟩ : ∃ q : Int, q = (pc xs.length b' : Int) := ⟨_, rfl⟩
          rw [← hp1] at ho1
          rw [← hp2] at ho2
          have HO1 := am_ ho1
          have HO2 := am_ ho2
          have HP1 := am_ hp1
          have HP2 := am_ hp2
          clear ho1 ho2 hp1 hp2
          by_cases n6 : p1 < p2
          · have d6 : decide (p1 < p2) = true := decide_eq_true n6
            have HF1 := am_ (show pick xs need (N - (s + 1)) (s + 1) s sum = bst from by have h_ := HF.out; rw [hstep, pick_take (better_yes (by rw [← HSM.out]; exact ⟨by omega, .inr (.inr ⟨n4, by rw [Int.toNat_natCast]; have := HP1.out; have := HP2.out; omega⟩)⟩)), ← HSM.out] at h_; exact h_)
            clear n1 n2 n3 n4 n6 hstep hbd
            go_wp2_with fail
            refine (bits_OnesCount.calls (s : Int) p1 _ HO1.out).mono ?_
            rintro e w5 ⟨rfl, hb0⟩
            have hb := db_ hb0
            clear hb0
            replace HB := am_ (below_step (by repeat first | (with_reducible first | exact HB.out | apply ba_ | apply bn_ | apply bd_) | exact HB.out) hb); clear hb
            go_wp2_with fail
            refine (bits_OnesCount.calls (b' : Int) p2 _ HO2.out).mono ?_
            rintro e w6 ⟨rfl, hb0⟩
            have hb := db_ hb0
            clear hb0
            replace HB := am_ (below_step (by repeat first | (with_reducible first | exact HB.out | apply ba_ | apply bn_ | apply bd_) | exact HB.out) hb); clear hb
            go_wp2
            go_roundw
            case rel => exact ⟨s, sum, s + 1, rfl, rfl, by go_num, ⟨hsN⟩, ⟨by omega⟩, HF1, ⟨(by repeat first | (with_reducible first | exact HB.out | apply ba_ | apply bn_ | apply bd_) | exact HB.out)⟩⟩
            case measure => simp [intOf]; omega
          have d6 : decide (p1 < p2) = false := decide_eq_false n6
          have HF1 := am_ (show pick xs need (N - (s + 1)) (s + 1) b' l = bst from by have h_ := HF.out; rw [hstep, pick_keep (better_no (fun q => by rw [← HSM.out] at q; rw [Int.toNat_natCast] at q; have := HP1.out; have := HP2.out; rcases q.2 with q | q | q <;> omega))] at h_; exact h_)
          clear n1 n2 n3 n4 n6 hstep hbd
          go_wp2_with fail
          refine (bits_OnesCount.calls (s : Int) p1 _ HO1.out).mono ?_
          rintro e w5 ⟨rfl, hb0⟩
          have hb := db_ hb0
          clear hb0
          replace HB := am_ (below_step (by repeat first | (with_reducible first | exact HB.out | apply ba_ | apply bn_ | apply bd_) | exact HB.out) hb); clear hb
          go_wp2_with fail
          refine (bits_OnesCount.calls (b' : Int) p2 _ HO2.out).mono ?_
          rintro e w6 ⟨rfl, hb0⟩
          have hb := db_ hb0
          clear hb0
          replace HB := am_ (below_step (by repeat first | (with_reducible first | exact HB.out | apply ba_ | apply bn_ | apply bd_) | exact HB.out) hb); clear hb
          go_wp2
          go_roundw
          case rel => exact ⟨b', l, s + 1, rfl, rfl, by go_num, ⟨hsN⟩, HBD, HF1, ⟨(by repeat first | (with_reducible first | exact HB.out | apply ba_ | apply bn_ | apply bd_) | exact HB.out)⟩⟩
          case measure => simp [intOf]; omega
        | cons a t =>
          have hlt := len_cons HX.out
          have hk := HBI.out a (by rw [HX.out]; simp)
          have k0 := hk.1
          have k1 := hk.2
          have c : decide (done.length < B.length) = true := decide_eq_true (by omega)
          have hdl : (done.length : Int) < (B.length : Int) := by omega
          obtain ⟨adv, e1, hxv⟩ := Kd.at_int (R_C HV.out) (done.length : Int) (by omega) hdl
          cases e1
          rw [rd_at HX.out rfl, Int.toNat_natCast] at hxv
          obtain ⟨x, hx⟩ : ∃ x, x = rd_T51 xs a := ⟨_, rfl⟩
          obtain ⟨ad, e0, hx0, hx1, hx2⟩ := at_T51 HR0.out a k0 k1
          rw [← hx] at hx0 hx1 hx2
          cases e0
          replace hx0 := (HB.out.cell (World.block_lt_of_cell? w _ hx0)).trans hx0
          replace hx1 := (HB.out.cell (World.block_lt_of_cell? w _ hx1)).trans hx1
          replace hx2 := (HB.out.cell (World.block_lt_of_cell? w _ hx2)).trans hx2
          have HS2 := am_ (show sumI xs (wrap64 (sum + valW x)) t = SM from by have h_ := HS1.out; rw [sumI, ← hx] at h_; exact h_)
          clear hlt hk hx
          go_wp2_with fail
          clear hx0 hx1 hx2 hxv
          refine (impl_valueOf.calls _ _ _ _ _ (implValue_eq x)).mono ?_
          rintro e w5 ⟨rfl, hb⟩
          replace HV := am_ (Kd.R_below (by (with_reducible repeat first | apply ra_ | apply rn_ | apply rd_); exact HV.out) hb); replace HB := am_ (below_step (by repeat first | (with_reducible first | exact HB.out | apply ba_ | apply bn_ | apply bd_) | exact HB.out) hb); clear hb
          go_wp2
          go_roundw
          case rel => exact ⟨done ++ [a], t, wrap64 (sum + valW x), ⟨snoc HX.out⟩, by rw [len_snoc], by go_num, HS2, ⟨(by (with_reducible repeat first | apply ra_ | apply rn_ | apply rd_); exact HV.out)⟩, ⟨(by repeat first | (with_reducible first | exact HB.out | apply ba_ | apply bn_ | apply bd_) | exact HB.out)⟩⟩
          case measure => simp [intOf]; omega
    · obtain rfl : N = s := by have := HSN.out; omega
      have cv : decide (N < N) = false := decide_eq_false (by omega)
      have hF := HF.out
      rw [Nat.sub_self, pick] at hF
      obtain rfl : b = bst := hF
      have hbd := HBD.out
      clear HF HSN
      by_cases n2 : b < 0
      · have d2 : decide (b < 0) = true := decide_eq_true n2
        have HE := am_ (show endSel xs.length b = ([], false) from by unfold endSel; rw [if_pos n2])
        clear n2 hbd
        go_wp2
        go_ret2
        rw [HE.out]
        exact ⟨_, rfl, Kd.R_nil _ _ _ _ _, (by repeat first | (with_reducible first | exact HB.out | apply ba_ | apply bn_ | apply bd_) | exact HB.out)⟩
      have d2 : decide (b < 0) = false := decide_eq_false n2
      obtain ⟨b', rfl⟩ : ∃ b' : Nat, b = (b' : Int) := ⟨b.toNat, by omega⟩
      have HEN := am_ (show endSel xs.length (b' : Int) = (blF xs.length b' 0, true) from by unfold endSel; rw [if_neg n2, Int.toNat_natCast])
      have hbN : b' < N := by omega
      clear n2 hbd
      go_wp2_with fail
      refine (bitsOf_c b' xs.length _ (by rw [← HN.out]; exact hbN) (by omega)).mono ?_
      rintro e w4 ⟨vb, rfl, ho, hb⟩
      have HV := am_ (Kd.R_lower ho (show w.heap.size ≤ _ from below_size (by repeat first | (with_reducible first | exact HB.out | apply ba_ | apply bn_ | apply bd_) | exact HB.out)))
      replace HB := am_ (below_step (by repeat first | (with_reducible first | exact HB.out | apply ba_ | apply bn_ | apply bd_) | exact HB.out) hb); clear hb
      go_wp2
      go_ret2
      rw [HEN.out]
      exact ⟨_, rfl, (by (with_reducible repeat first | apply ra_ | apply rn_ | apply rd_); exact HV.out), (by repeat first | (with_reducible first | exact HB.out | apply ba_ | apply bn_ | apply bd_) | exact HB.out)⟩
def Lcf_ren : Go.Shelf.Ren := ⟨fun | 6 => 74 | 8 => 61 | n => n, fun | 22 => 39 | 23 => 3 | 25 => 64 | n => n, fun | n => n⟩
theorem Lcf : Go.Proofs.SlLaysH.n8 Try.prog Lcf_ren := {
  mixed := by kernel_rfl,
  f6 := ⟨Try.f74.name, by decide, Try.func74.trans (congrArg some (by kernel_rfl))⟩,
  f8 := ⟨Try.f61.name, by decide, Try.func61.trans (congrArg some (by kernel_rfl))⟩,
  t0 := Try.underlying0,
  a0 := Try.isAgg0,
  z0 := Try.sizeOf0,
  v0 := Try.zeroValue0,
  t3 := Try.underlying3,
  a3 := Try.isAgg3,
  z3 := Try.sizeOf3,
  v3 := Try.zeroValue3,
  t4 := Try.underlying4,
  a4 := Try.isAgg4,
  z4 := Try.sizeOf4,
  v4 := Try.zeroValue4,
  t22 := Try.underlying39,
  a22 := Try.isAgg39,
  z22 := Try.sizeOf39,
  v22 := Try.zeroValue39,
  a23 := Try.isAgg3,
  z23 := Try.sizeOf3,
  t25 := Try.underlying64,
  a25 := Try.isAgg64,
  z25 := Try.sizeOf64,
  v25 := Try.zeroValue64 }

/-- slices.ContainsFunc over a row of whole numbers, a predicate given. -/
theorem containsFunc_c (g : Nat) (eg : ∀ args w, (callFunc g args).run Try.prog w = .ok (.enter g args) w) (lb : Array Value) (p : Int → Bool) (A : Option Addr) (c : Nat) (xs : List Int) (w : World) (hp : PredAt Try.prog g lb (Value.int .i64) p w) (hr : (Kd.int .i64).C w A xs.length xs) (ha : 0 < xs.length → ∃ b, A = some ⟨b, 0, none⟩) :
    Calls Try.prog 61 #[.slice A xs.length c, .func (.func g) #[] lb] w fun e w' => e = .returned (.bool (xs.any p)) ∧ ∃ q, w' = w.drewN q := by
  by_cases hp0 : 0 < xs.length
  · obtain ⟨b, rfl⟩ := ha hp0
    have h := AnyE.slices_ContainsFunc Lcf (Value.int .i64) p g lb eg b 0 xs.length c xs w hp (Nat.le_refl _) (Kd.C_max hr) (cellsOf hr)
    rw [List.take_length] at h
    exact h
  · obtain rfl : xs = [] := List.length_eq_zero_iff.mp (by omega)
    exact (AnyE.slices_ContainsFunc_empty Lcf A c _ w).mono fun e w' ⟨he, hw⟩ => ⟨he, 0, hw⟩
theorem stressPred (w : World) : PredAt Try.prog 62 #[] (Value.int .i64) (fun x => !shOk x) w := fun W x _ => by
  unfold FnGives
  have h : impl_within.f x 0 1000 = some (shOk x) := by rw [within_eq]; rfl
  go_enter Try.func62, Try.ntmps62
  go_wp2_with (go_at_call 54; refine (impl_within.calls x 0 1000 _ _ h).mono ?_; rintro e w' ⟨rfl, ⟨n, rfl⟩⟩)
  go_ret
  exact ⟨rfl, n, rfl⟩
set_option maxHeartbeats 4000000 in
set_option maxRecDepth 100000 in
theorem strI_c (A0 : Option Addr) (c0 : Nat) (xs : List S51) (A1 : Option Addr) (c1 : Nat) (sh : List Int) (w : World) (hr0 : Kd.C k51 w A0 xs.length xs) (hc0 : xs.length ≤ c0) (hr1 : (Kd.int .i64).C w A1 sh.length sh) (hc1 : sh.length ≤ c1) (ha : sh.length = 10 → ∃ b, A1 = some ⟨b, 0, none⟩) (hn : xs.length ≤ 1048576) (hm : sh.length ≤ 1048576) :
    Calls Try.prog 28 #[.slice A0 xs.length c0, .slice A1 sh.length c1] w fun e w' => e = .returned (.tuple #[.int .i64 (strA xs sh).1, .bool (strA xs sh).2]) ∧ Below w.heap.size w w' := by
  obtain ⟨kv, hv⟩ := roundsOf (implValid_ev xs hn)
  have eg : ∀ args w, (callFunc 62 args).run Try.prog w = .ok (.enter 62 args) w := enters_of Try.func62 (by kernel_rfl) rfl
  by_cases g : goodA xs = true
  · rw [g] at hv
    have HV := am_ hv
    have HR0 := am_ hr0
    have HR1 := am_ hr1
    have HC0 := am_ hc0
    have HC1 := am_ hc1
    by_cases hl : sh.length = 10
    · have hl' : ((sh.length : Int) != 10) = false := by rw [bne_eq_false_iff_eq]; omega
      by_cases hs : sh.any (fun x => !shOk x) = true
      · have hfin : strA xs sh = (0, false) := by
          unfold strA
          rw [if_neg (fun q => ?_)]
          obtain ⟨x, hx, hx2⟩ := List.any_eq_true.mp hs
          have := List.all_eq_true.mp q.2.2 x hx
          rw [this] at hx2; cases hx2
        have HF := am_ hfin
        have HS := am_ hs
        have HA := am_ (ha hl)
        have EG := am_ eg
        clear hv hr0 hr1 hc0 hc1 hfin hs ha eg hl g
        go_enter Try.func28, Try.ntmps28
        go_wp2_with (first
          | (go_at_call 20; refine (impl_IsValidAssets.calls kv _ _ xs true _ HR0.out HC0.out HV.out).mono ?_; rintro e w1 ⟨rfl, hb⟩; have HB := am_ hb; clear hb)
          | (go_at_call 61; refine (containsFunc_c 62 EG.out #[] (fun x => !shOk x) _ _ sh _ (stressPred _) (Kd.C_below HR1.out HB.out) (fun _ => HA.out)).mono ?_; rw [HS.out]; rintro e w2 ⟨rfl, ⟨q, rfl⟩⟩))
        go_ret2
        rw [HF.out]
        exact ⟨rfl, pw_below_drewN HB.out _⟩
      · have hs' : sh.any (fun x => !shOk x) = false := by simpa using hs
        have hall : sh.all shOk = true := by
          refine List.all_eq_true.mpr (fun x hx => ?_)
          by_cases q : shOk x = true
          · exact q
          · exact absurd (List.any_eq_true.mpr ⟨x, hx, by simpa using q⟩) hs
        have hfin : strA xs sh = (sumV 0 (xs.map (strW sh)), true) := by
          unfold strA
          rw [if_pos ⟨g, hl, hall⟩]
        have hok : ∀ a ∈ xs, okA a := (of_decide_eq_true g).1
        have HF := am_ hfin
        have HS := am_ hs'
        have HA := am_ (ha hl)
        have EG := am_ eg
        have HL := am_ hl
        have HOK := am_ hok
        clear hv hr0 hr1 hc0 hc1 hfin hs hs' hall ha eg hl g hok
        go_enter Try.func28, Try.ntmps28
        go_wp2_with (first
          | (go_at_call 20; refine (impl_IsValidAssets.calls kv _ _ xs true _ HR0.out HC0.out HV.out).mono ?_; rintro e w1 ⟨rfl, hb⟩; have HB := am_ hb; clear hb)
          | (go_at_call 61; refine (containsFunc_c 62 EG.out #[] (fun x => !shOk x) _ _ sh _ (stressPred _) (Kd.C_below HR1.out HB.out) (fun _ => HA.out)).mono ?_; rw [HS.out]; rintro e w2 ⟨rfl, ⟨q, rfl⟩⟩))
        go_loopw [6, 23] (fun v6 v23 wr => ∃ (pre rest : List S51) (s : Int), Aside0 (xs = pre ++ rest) ∧ v23 = .int .i64 pre.length ∧ v6 = .int .i64 s ∧ Aside0 (sumV s (rest.map (strW sh)) = sumV 0 (xs.map (strW sh))) ∧ Aside0 (Below w.heap.size w wr)) (fun _ v23 _ => xs.length - (intOf v23).toNat)
        case atStart => exact ⟨[], xs, 0, ⟨rfl⟩, rfl, rfl, ⟨rfl⟩, ⟨pw_below_drewN HB.out _⟩⟩
        case round =>
          obtain ⟨pre, rest, s, HX, rfl, rfl, HE, HB⟩ := hrel
          cases rest with
          | nil =>
            have c : decide (pre.length < xs.length) = false := decide_eq_false (by have := len_nil HX.out; omega)
            go_wp2
            go_ret2
            rw [HF.out]
            exact ⟨by rw [← HE.out]; rfl, HB.out⟩
          | cons a t =>
            have hlt := len_cons HX.out
            have hpl : (pre.length : Int) < xs.length := by omega
            have hmem : a ∈ xs := by rw [HX.out]; simp
            have hka := (HOK.out a hmem).1
            obtain ⟨ad, e0, hx0, hx1, hx2⟩ := at_T51 HR0.out (pre.length : Int) (by omega) hpl
            rw [rd_T51_at HX.out rfl] at hx0 hx1 hx2
            simp only [Int.toNat_natCast] at hx0 hx1 hx2
            cases e0
            replace hx0 := (HB.out.cell (World.block_lt_of_cell? w _ hx0)).trans hx0
            replace hx1 := (HB.out.cell (World.block_lt_of_cell? w _ hx1)).trans hx1
            replace hx2 := (HB.out.cell (World.block_lt_of_cell? w _ hx2)).trans hx2
            have c : decide (pre.length < xs.length) = true := decide_eq_true (by omega)
            have hq : a.f0 < sh.length := by have := HL.out; omega
            have hp := hka.1
            obtain ⟨ad1, e1, hy⟩ := Kd.at_int HR1.out a.f0 hp hq
            cases e1
            replace hy := (HB.out.cell (World.block_lt_of_cell? w _ hy)).trans hy
            have hy' : ∀ O, (wr.alloc O).cell? (ad1.add a.f0.toNat) = some (.int .i64 (rd sh a.f0)) := fun O => ((below_alloc (Below.refl wr.heap.size wr) O).cell (World.block_lt_of_cell? wr _ hy)).trans hy
            clear hlt hmem hka
            go_upto_region 7 with (fail)
            go_region
            go_wp2_with (go_at_call 59; refine (impl_valueOf.calls _ _ _ _ _ (implValue_eq (strW sh a))).mono ?_; rintro e w3 ⟨rfl, hb⟩)
            have hB3 : Below w.heap.size w w3 := below_step (below_drew1 (below_alloc HB.out _)) hb
            go_roundw
            case rel => exact ⟨pre ++ [a], t, wrap64 (s + valW (strW sh a)), ⟨snoc HX.out⟩, by rw [len_snoc], by go_num, ⟨HE.out⟩, ⟨hB3⟩⟩
            case measure => simp [intOf]; omega
    · have hl' : ((sh.length : Int) != 10) = true := by rw [bne_iff_ne]; omega
      have hfin : strA xs sh = (0, false) := by unfold strA; rw [if_neg (fun q => hl q.2.1)]
      have HF := am_ hfin
      clear hv hr0 hr1 hc0 hc1 hfin ha eg hl g
      go_enter Try.func28, Try.ntmps28
      go_wp2_with (go_at_call 20; refine (impl_IsValidAssets.calls kv _ _ xs true _ HR0.out HC0.out HV.out).mono ?_; rintro e w1 ⟨rfl, hb⟩; have HB := am_ hb; clear hb)
      go_ret2
      rw [HF.out]
      exact ⟨rfl, HB.out⟩
  · have g' : goodA xs = false := by simpa using g
    rw [g'] at hv
    have hfin : strA xs sh = (0, false) := by unfold strA; rw [if_neg (fun q => g q.1)]
    have HV := am_ hv
    have HR0 := am_ hr0
    have HC0 := am_ hc0
    have HF := am_ hfin
    clear hv hr0 hr1 hc0 hc1 hfin ha eg g g'
    go_enter Try.func28, Try.ntmps28
    go_wp2_with (go_at_call 20; refine (impl_IsValidAssets.calls kv _ _ xs false _ HR0.out HC0.out HV.out).mono ?_; rintro e w1 ⟨rfl, hb⟩; have HB := am_ hb; clear hb)
    go_ret2
    rw [HF.out]
    exact ⟨rfl, HB.out⟩
end Go.Proofs.Ytiaakolalhdelaa.O
