/- Walks of our own, a part of those for the law FnExactRunWaterfall: each function's contract in plain Lean. No condition beyond the bounds that each contract names. -/
import Derived.Test.YtbnhpkkkijjkkaaPureFnExactRunWaterfall
import Derived.Shelf.SlicesE.IndexFunc
import Derived.Shelf.Slices.Clone
import Derived.Shelf.Slices.Turned
import Derived.Sort.LotA
import Derived.Shelf.SlSortCmp.Insertion1
import Derived.Shelf.SlLaysH
import Derived.Shelf.Lays2
import Derived.Shelf.Lays
import Derived.Shelf.SlLaysF
import Derived.Test.YtbnhpkkkijjkkaaOFnExactRunWaterfalla
import Derived.Test.YtbnhpkkkijjkkaaOFnExactRunWaterfallb
import Derived.Test.YtbnhpkkkijjkkaaOFnExactRunWaterfallc
import Derived.Test.YtbnhpkkkijjkkaaOFnExactRunWaterfalld
import Derived.Test.YtbnhpkkkijjkkaaOFnExactRunWaterfalle
import Derived.Test.YtbnhpkkkijjkkaaOFnExactRunWaterfallf
import Derived.Test.YtbnhpkkkijjkkaaOFnExactRunWaterfallg
namespace Go.Proofs.Ytbnhpkkkijjkkaa.O
open Go.RowKit Go.Proofs.YtbnhpkkkijjkkaaW.PrintWords Go.Proofs.YtbnhpkkkijjkkaaW.PrintLast Go.Proofs.YtbnhpkkkijjkkaaW.PrintMore Go.Proofs.Ytbnhpkkkijjkkaa.PL18D Go.Proofs.Ytbnhpkkkijjkkaa.EvKit Go.Proofs.Ytbnhpkkkijjkkaa.Pure
set_option linter.unusedVariables false
set_option linter.unusedSimpArgs false
attribute [local go_sem] max2_int min2_int max_two min_two max_three min_three max_four min_four
/-- Rows of whole numbers as their headers lie in a row: address, length, capacity. -/
def encH (h : Option Addr × Nat × Nat) : Value := .slice h.1 h.2.1 h.2.2
def KV : Kd (Option Addr × Nat × Nat) := Kd.scalar encH (fun _ => rfl)
/-- A row of rows of one's own, no two of which share a block. -/
structure RowsA (w : World) (base : Nat) (v : Value) (hs : List (Option Addr × Nat × Nat)) (ps : List (List Int)) : Prop where
  row : KV.R 51 w base (fun _ => True) v hs
  len : hs.length = ps.length
  all : ∀ (i : Nat) h p, hs[i]? = some h → ps[i]? = some p → (Kd.int .i64).R 3 w base (fun _ => True) (encH h) p
  ap : ∀ (i j : Nat) h h', i < j → hs[i]? = some h → hs[j]? = some h' → ∀ k, (encH h).ownBlock = some k → (encH h').ownBlock ≠ some k
theorem RowsA.below {w w1 : World} {base : Nat} {v : Value} {hs : List (Option Addr × Nat × Nat)} {ps : List (List Int)} (h : RowsA w base v hs ps) (hb : Below w.heap.size w w1) : RowsA w1 base v hs ps :=
  ⟨Kd.R_below h.row hb, h.len, fun i a p h1 h2 => Kd.R_below (h.all i a p h1 h2) hb, h.ap⟩
theorem RowsA.alloc {w : World} {base : Nat} {v : Value} {hs : List (Option Addr × Nat × Nat)} {ps : List (List Int)} (h : RowsA w base v hs ps) (o : Obj) : RowsA (w.alloc o) base v hs ps := h.below (below_alloc (Below.refl _ _) o)
theorem RowsA.drew {w : World} {base : Nat} {v : Value} {hs : List (Option Addr × Nat × Nat)} {ps : List (List Int)} (h : RowsA w base v hs ps) : RowsA w.drew base v hs ps := ⟨Kd.R_drew h.row, h.len, fun i a p h1 h2 => Kd.R_drew (h.all i a p h1 h2), h.ap⟩
theorem RowsA.drewN {w : World} {base : Nat} {v : Value} {hs : List (Option Addr × Nat × Nat)} {ps : List (List Int)} (h : RowsA w base v hs ps) (n : Nat) : RowsA (w.drewN n) base v hs ps := ⟨Kd.R_drewN h.row n, h.len, fun i a p h1 h2 => Kd.R_drewN (h.all i a p h1 h2) n, h.ap⟩
theorem RowsA.lit {w w1 : World} {base : Nat} {v : Value} {hs : List (Option Addr × Nat × Nat)} {ps : List (List Int)} (h : RowsA w base v hs ps) (hg : w.grownBy w1 none) : RowsA w1 base v hs ps :=
  ⟨Kd.R_grown h.row hg (fun _ _ e => by cases e), h.len, fun i a p h1 h2 => Kd.R_grown (h.all i a p h1 h2) hg (fun _ _ e => by cases e), h.ap⟩
/-- A store into a block of another type. -/
theorem RowsA.off {w : World} {base g t : Nat} {v : Value} {hs : List (Option Addr × Nat × Nat)} {ps : List (List Int)} {cs : Array Value} (h : RowsA w base v hs ps) (hb : w.heap[g]? = some (.cells cs t (0, 0))) (h1 : t ≠ 51) (h3 : t ≠ 3) (j : Nat) (u : Value) : RowsA (w.setCell ⟨g, j, none⟩ u) base v hs ps :=
  ⟨R_offTy h.row hb (by simp [KV, Kd.scalar]; exact h1) j u, h.len, fun i a p q1 q2 => R_offTy (h.all i a p q1 q2) hb (by simp [Kd.int, Kd.scalar]; exact h3) j u, h.ap⟩
/-- Another row grows. -/
theorem RowsA.grown {w w1 : World} {base : Nat} {v : Value} {ob : Option Nat} {hs : List (Option Addr × Nat × Nat)} {ps : List (List Int)} (h : RowsA w base v hs ps) (hg : w.grownBy w1 ob) (ho : ∀ k, v.ownBlock = some k → some k ≠ ob) (hi : ∀ (i : Nat) a, hs[i]? = some a → ∀ k, (encH a).ownBlock = some k → some k ≠ ob) : RowsA w1 base v hs ps :=
  ⟨Kd.R_mono (Kd.R_grown (R_flat (ok' := fun k => v.ownBlock = some k) (fun _ _ _ _ _ _ q => q) h.row (fun _ hk => hk)) hg (fun k hk e => ho k hk e)) (fun _ _ => trivial), h.len,
   fun i a p q1 q2 => Kd.R_mono (Kd.R_grown (R_flat (ok' := fun k => (encH a).ownBlock = some k) flat_int (h.all i a p q1 q2) (fun _ hk => hk)) hg (fun k hk e => hi i a q1 k hk e)) (fun _ _ => trivial), h.ap⟩
theorem RowsA.nil {w : World} {base : Nat} {v : Value} (h : KV.R 51 w base (fun _ => True) v []) : RowsA w base v [] [] := ⟨h, rfl, by simp, by simp⟩
/-- A row is appended; its block is none of the others'. -/
theorem RowsA.push {w w1 : World} {base : Nat} {v v1 : Value} {hs : List (Option Addr × Nat × Nat)} {ps : List (List Int)} {x : Option Addr × Nat × Nat} {p : List Int} (h : RowsA w base v hs ps) (hr : KV.R 51 w1 base (fun _ => True) v1 (hs ++ [x])) (hg : w.grownBy w1 v.ownBlock)
    (hp : (Kd.int .i64).R 3 w base (fun _ => True) (encH x) p) (hap : ∀ (i : Nat) a, hs[i]? = some a → ∀ k, (encH a).ownBlock = some k → (encH x).ownBlock ≠ some k) : RowsA w1 base v1 (hs ++ [x]) (ps ++ [p]) := by
  refine ⟨hr, by rw [List.length_append, List.length_append, h.len]; rfl, fun i a q h1 h2 => ?_, fun i j a a' hij h1 h2 => ?_⟩
  · by_cases c : i < hs.length
    · rw [List.getElem?_append_left c] at h1
      rw [List.getElem?_append_left (by rw [← h.len]; exact c)] at h2
      exact R_grownTy (h.all i a q h1 h2) h.row (by decide) hg
    · rw [List.getElem?_append_right (by omega)] at h1
      rw [List.getElem?_append_right (by rw [← h.len]; omega)] at h2
      have hi : i - hs.length = 0 := by
        have := (List.getElem?_eq_some_iff.mp h1).1
        simp at this; omega
      rw [hi] at h1
      rw [← h.len, hi] at h2
      have e1 : x = a := by simpa using h1
      have e2 : p = q := by simpa using h2
      rw [← e1, ← e2]
      exact R_grownTy hp h.row (by decide) hg
  · by_cases c : j < hs.length
    · rw [List.getElem?_append_left (by omega)] at h1
      rw [List.getElem?_append_left c] at h2
      exact h.ap i j a a' hij h1 h2
    · rw [List.getElem?_append_right (by omega)] at h2
      have hj : j - hs.length = 0 := by
        have := (List.getElem?_eq_some_iff.mp h2).1
        simp at this; omega
      rw [hj] at h2
      have e1 : x = a' := by simpa using h2
      rw [List.getElem?_append_left (by omega)] at h1
      rw [← e1]
      exact hap i a h1
/-- Every block lies in the world. -/
theorem RowsA.lt {w : World} {base : Nat} {v : Value} {hs : List (Option Addr × Nat × Nat)} {ps : List (List Int)} (h : RowsA w base v hs ps) {i : Nat} {a : Option Addr × Nat × Nat} (hi : hs[i]? = some a) {k : Nat} (hk : (encH a).ownBlock = some k) : base ≤ k ∧ k < w.heap.size := by
  have hl := (List.getElem?_eq_some_iff.mp hi).1
  have hl' : i < ps.length := by rw [← h.len]; exact hl
  have hp : ps[i]? = some ps[i] := List.getElem?_eq_getElem hl'
  exact R_ownlt (h.all i a _ hi hp) hk
/-- As rows of rows. -/
theorem RowsA.rows {w : World} {base : Nat} {v : Value} {hs : List (Option Addr × Nat × Nat)} {ps : List (List Int)} (h : RowsA w base v hs ps) (hne : ∀ (i : Nat) a, hs[i]? = some a → ∀ k, (encH a).ownBlock = some k → some k ≠ v.ownBlock) : Kd.R (Kd.slice 3 (Kd.int .i64)) 51 w base (fun _ => True) v ps := by
  obtain ⟨h0, inner, ho, hr⟩ := h.row
  refine ⟨h0, inner, by rw [h.len] at ho; exact ho, ?_, fun i p hi => ?_⟩
  · rw [hr.1, h.len]; rfl
  · have hl : i < hs.length := by rw [h.len]; exact (List.getElem?_eq_some_iff.mp hi).1
    have hh : hs[i]? = some hs[i] := List.getElem?_eq_getElem hl
    have h1 := hr.2 i _ hh
    refine ⟨encH hs[i], h1, R_flat flat_int (h.all i _ p hh hi) (fun k hk => ⟨trivial, hne i _ hh k hk⟩)⟩
end Go.Proofs.Ytbnhpkkkijjkkaa.O
