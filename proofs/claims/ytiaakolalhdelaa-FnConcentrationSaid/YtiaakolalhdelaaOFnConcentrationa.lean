/- Walks of our own, a part of those for the law FnConcentration: each function's contract in plain Lean. No condition beyond the bounds that each contract names. -/
import Derived.Test.YtiaakolalhdelaaPureFnConcentration
namespace Go.Proofs.Ytiaakolalhdelaa.O
open Go.RowKit Go.Proofs.YtiaakolalhdelaaW.PrintWords Go.Proofs.YtiaakolalhdelaaW.PrintLast Go.Proofs.YtiaakolalhdelaaW.PrintMore Go.Proofs.Ytiaakolalhdelaa.PL17C Go.Proofs.Ytiaakolalhdelaa.EvKit Go.Proofs.Ytiaakolalhdelaa.Pure
set_option linter.unusedVariables false
set_option linter.unusedSimpArgs false
attribute [local go_sem] max2_int min2_int max_two min_two max_three min_three max_four min_four
theorem am_ {p : Prop} (h : p) : Aside0 p := ⟨h⟩
theorem db_ {w w' : World} (h : Drawn0 w w') : Below w.heap.size w w' := Drawn0.below h
/-- A number of rounds at which a printed function answers. -/
theorem roundsOf {α : Type} {g : Nat → Option α} {r : α} (h : Ev g r) : ∃ k, g k = some r := Ev.rounds h
theorem cellsOf {w : World} {b o : Nat} {xs : List Int} (h : (Kd.int .i64).C w (some ⟨b, o, none⟩) xs.length xs) : ∀ j, j < xs.length → w.cell? ⟨b, o + j, none⟩ = some (.int .i64 xs[j]!) := by
  intro j hj
  obtain ⟨ad, e, hc⟩ := Kd.at_int h (j : Int) (by omega) (by omega)
  injection e with e
  subst e
  rw [add_at] at hc
  rw [Int.toNat_natCast] at hc
  rw [hc, rd, Int.toNat_natCast, List.getD_eq_getElem?_getD, List.getElem?_eq_getElem hj, List.getElem!_eq_getElem?_getD, List.getElem?_eq_getElem hj]
  rfl
/-- Between two numbers. -/
def Iv (a b : Nat) (k : Nat) : Prop := a ≤ k ∧ k < b
theorem R_iv {α : Type} {d : Kd α} {e base : Nat} {ok : Nat → Prop} {w : World} {v : Value} {xs : List α} (h : d.R e w base ok v xs) : d.R e w base (Iv base w.heap.size) v xs := Kd.R_mono (Kd.R_bound h) (fun _ hk => ⟨hk.2.1, hk.2.2.1⟩)
/-- Where a row of one's own that is not empty begins. -/
theorem R_head {α : Type} {d : Kd α} {e base : Nat} {ok : Nat → Prop} {w : World} {A : Option Addr} {n c : Nat} {xs : List α} (h : d.R e w base ok (.slice A n c) xs) (hp : 0 < xs.length) : ∃ b, A = some ⟨b, 0, none⟩ := by
  obtain ⟨g, cap, e1, _⟩ := Kd.R_form h hp
  injection e1 with e1
  exact ⟨g, e1⟩
theorem R_ivw {α : Type} {d : Kd α} {e base a b : Nat} {ok : Nat → Prop} {w : World} {v : Value} {xs : List α} (h : d.R e w base ok v xs) (ha : a ≤ base) (hb : b ≤ base) : d.R e w b (Iv a w.heap.size) v xs := Kd.R_lower (Kd.R_mono (Kd.R_bound h) (fun _ hk => ⟨Nat.le_trans ha hk.2.1, hk.2.2.1⟩)) hb
/-- A row whose elements hold no rows lies in its own block alone. -/
theorem R_flat {α : Type} {d : Kd α} {e base : Nat} {ok ok' : Nat → Prop} {w : World} {v : Value} {xs : List α} (hf : ∀ (w : World) (b : Nat) (p q : Nat → Prop) x cs, d.M w b p x cs → d.M w b q x cs) (h : d.R e w base ok v xs) (h0 : ∀ k, v.ownBlock = some k → ok' k) : d.R e w base ok' v xs := ⟨h0, h.2.imp_ (fun _ _ hp => hf _ _ _ _ _ _ hp)⟩
theorem flat_int (w : World) (b : Nat) (p q : Nat → Prop) (x : Int) (cs : List Value) (h : (Kd.int .i64).M w b p x cs) : (Kd.int .i64).M w b q x cs := h
theorem cellsOfD {w : World} {b o m : Nat} {xs : List Int} (h : (Kd.int .i64).C w (some ⟨b, o, none⟩) m xs) : ∀ j, j < xs.length → w.cell? ⟨b, o + j, none⟩ = some (.int .i64 (xs.getD j 0)) := by
  intro j hj
  have hl := Kd.C_len h
  obtain ⟨ad, e, hc⟩ := Kd.at_int h (j : Int) (by omega) (by omega)
  injection e with e
  subst e
  rw [add_at, Int.toNat_natCast] at hc
  exact hc
theorem R_C {α : Type} {d : Kd α} {e base : Nat} {ok : Nat → Prop} {w : World} {A : Option Addr} {n c : Nat} {xs : List α} (h : d.R e w base ok (.slice A n c) xs) : d.C w A n xs := by
  obtain ⟨rfl, _, hc⟩ := Kd.R_reads' h
  exact hc
theorem R_cap {α : Type} {d : Kd α} {e base : Nat} {ok : Nat → Prop} {w : World} {A : Option Addr} {n c : Nat} {xs : List α} (h : d.R e w base ok (.slice A n c) xs) : n ≤ c := (Kd.R_reads' h).2.1
theorem R_same {α : Type} {d : Kd α} {e base : Nat} {ok : Nat → Prop} {w w1 : World} {v : Value} {xs : List α} (h : d.R e w base ok v xs) (hg : w.grownBy w1 none) : d.R e w1 base ok v xs := Kd.R_grown h hg (fun _ _ e => by cases e)
theorem R_block {α : Type} {d : Kd α} {e base g n c : Nat} {ok : Nat → Prop} {w : World} {xs : List α} (h : d.R e w base ok (.slice (some ⟨g, 0, none⟩) n c) xs) (hp : 0 < n) : ∃ cells, w.heap[g]? = some (.cells cells e (0, 0)) := by
  obtain ⟨e1, _, _⟩ := Kd.R_reads' h
  obtain ⟨g', cap, e2, _, _, cells, h3⟩ := Kd.R_form h (by omega)
  injection e2 with e2 _ _
  injection e2 with e2
  injection e2 with e2
  subst e2
  exact ⟨cells, h3⟩
theorem ba_ {w W : World} (h : Below w.heap.size w W) (o : Obj) : Below w.heap.size w (W.alloc o) := below_alloc h o
theorem bn_ {B : Nat} {w W : World} (h : Below B w W) (n : Nat) : Below B w (W.drewN n) := pw_below_drewN h n
theorem bd_ {B : Nat} {w W : World} (h : Below B w W) : Below B w W.drew := below_drew1 h
theorem ca_ {α : Type} {d : Kd α} {w : World} {xs : List α} {A : Option Addr} {n : Nat} (h : d.C w A n xs) (o : Obj) : d.C (w.alloc o) A n xs := Kd.C_alloc h o
theorem cn_ {α : Type} {d : Kd α} {w : World} {xs : List α} {A : Option Addr} {n : Nat} (h : d.C w A n xs) (m : Nat) : d.C (w.drewN m) A n xs := Kd.C_drewN h m
theorem cd_ {α : Type} {d : Kd α} {w : World} {xs : List α} {A : Option Addr} {n : Nat} (h : d.C w A n xs) : d.C w.drew A n xs := Kd.C_drew h
theorem ra_ {α : Type} {d : Kd α} {w : World} {xs : List α} {e : TypeId} {base : Nat} {ok : Nat → Prop} {v : Value} (h : d.R e w base ok v xs) (o : Obj) : d.R e (w.alloc o) base ok v xs := Kd.R_alloc h o
theorem rn_ {α : Type} {d : Kd α} {w : World} {xs : List α} {e : TypeId} {base : Nat} {ok : Nat → Prop} {v : Value} (h : d.R e w base ok v xs) (m : Nat) : d.R e (w.drewN m) base ok v xs := Kd.R_drewN h m
theorem rd_ {α : Type} {d : Kd α} {w : World} {xs : List α} {e : TypeId} {base : Nat} {ok : Nat → Prop} {v : Value} (h : d.R e w base ok v xs) : d.R e w.drew base ok v xs := Kd.R_drew h
theorem ka_ {w : World} {g : Nat} {o : Obj} (h : w.heap[g]? = some o) (o' : Obj) : (w.alloc o').heap[g]? = some o := blk_alloc h o'
theorem kd_ {w : World} {g : Nat} {o : Obj} (h : w.heap[g]? = some o) : w.drew.heap[g]? = some o := blk_drew h
theorem kn_ {w : World} {g : Nat} {o : Obj} (h : w.heap[g]? = some o) (n : Nat) : (w.drewN n).heap[g]? = some o := blk_drewN h n
theorem kf_ {w : World} {g : Nat} {t : TypeId} {cs : Array Value} (h : w.heap[g]? = some (.cells cs t (0, 0))) {p : Addr} (hp : g ≠ p.block) (u : Value) : (w.setCell p u).heap[g]? = some (.cells cs t (0, 0)) := blk_far h hp u
theorem infoI : (Try.prog.info? 3).map (fun i => (i.zero, i.size, i.bytes)) = some (some (.int .i64 0), 1, 8) := by kernel_rfl
theorem sumI_leC : ∀ (xs : List Int) (B : Int), (∀ x ∈ xs, x ≤ B) → sumI xs ≤ B * xs.length
  | [], B, _ => by simp [sumI]
  | a :: t, B, h => by
    have ih := sumI_leC t B (fun x hx => h x (List.mem_cons_of_mem _ hx))
    have h1 := h a List.mem_cons_self
    have e : B * ((t.length + 1 : Nat) : Int) = B * t.length + B := by rw [Int.natCast_add, Int.mul_add]; simp
    simp only [sumI, List.length_cons]
    rw [e]; omega
theorem sumOf_c (A : Option Addr) (n c : Nat) (xs : List Int) (w : World) (hn : n = xs.length) (hr : (Kd.int .i64).C w A xs.length xs) (hc : xs.length ≤ c) (h0 : ∀ x ∈ xs, 0 ≤ x ∧ x ≤ 1000000000) (hl : xs.length ≤ 1048576) :
    Calls Try.prog 66 #[.slice A n c] w fun e w' => e = .returned (.int .i64 (sumI xs)) ∧ ∃ m, w' = w.drewN m := by
  subst hn
  obtain ⟨k, hk⟩ := roundsOf (implSumOf_ev xs (by omega))
  have hle := sumI_leC xs 1000000000 (fun x q => (h0 x q).2)
  rw [sumWI_eq xs 0 (fun x q => (h0 x q).1) (by omega) (by omega), Int.zero_add] at hk
  exact (impl_sumOf.calls k A c xs _ w hr hc hk).mono fun e w' ⟨he, ⟨m, hw⟩⟩ => ⟨he, m, hw⟩
end Go.Proofs.Ytiaakolalhdelaa.O
