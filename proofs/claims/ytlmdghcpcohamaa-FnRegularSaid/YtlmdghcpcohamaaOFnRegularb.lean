/- Walks of our own, a part of those for the law FnRegular: each function's contract in plain Lean. No condition beyond the bounds that each contract names. -/
import Derived.Test.YtlmdghcpcohamaaPureFnRegular
import Derived.Deep.RegionWith
import Derived.Shelf.Sort.Plain
import Derived.Shelf.Lays
import Derived.Test.YtlmdghcpcohamaaOFnRegulara
namespace Go.Proofs.Ytlmdghcpcohamaa.O
open Go.RowKit Go.Proofs.YtlmdghcpcohamaaW.PrintWords Go.Proofs.YtlmdghcpcohamaaW.PrintLast Go.Proofs.YtlmdghcpcohamaaW.PrintMore Go.Proofs.Ytlmdghcpcohamaa.PL14G Go.Proofs.Ytlmdghcpcohamaa.EvKit Go.Proofs.Ytlmdghcpcohamaa.Pure
set_option linter.unusedVariables false
set_option linter.unusedSimpArgs false
attribute [local go_sem] max2_int min2_int max_two min_two max_three min_three max_four min_four
def Lsi_ren : Go.Shelf.Ren := ⟨fun | 125 => 111 | 128 => 138 | 129 => 139 | 189 => 80 | 215 => 142 | 216 => 135 | 257 => 110 | 294 => 129 | 295 => 130 | 296 => 131 | 297 => 132 | 298 => 133 | 299 => 134 | 300 => 136 | 301 => 137 | 328 => 145 | 329 => 146 | 330 => 147 | 331 => 148 | 332 => 149 | 343 => 152 | n => n, fun | 0 => 0 | 3 => 3 | 4 => 4 | 5 => 5 | 9 => 9 | 28 => 32 | 46 => 104 | 51 => 113 | 53 => 89 | 131 => 29 | 182 => 119 | 183 => 120 | 218 => 127 | 222 => 131 | 228 => 135 | 229 => 68 | n => n, fun | n => n⟩
theorem Lsi : Go.Proofs.Lays.n189 Try.prog Lsi_ren := {
  mixed := by kernel_rfl,
  f125 := Try.func111.trans (congrArg some (by kernel_rfl)),
  f128 := Try.func138.trans (congrArg some (by kernel_rfl)),
  f129 := Try.func139.trans (congrArg some (by kernel_rfl)),
  f189 := Try.func80.trans (congrArg some (by kernel_rfl)),
  f215 := Try.func142.trans (congrArg some (by kernel_rfl)),
  f216 := Try.func135.trans (congrArg some (by kernel_rfl)),
  f257 := Try.func110.trans (congrArg some (by kernel_rfl)),
  f294 := Try.func129.trans (congrArg some (by kernel_rfl)),
  f295 := Try.func130.trans (congrArg some (by kernel_rfl)),
  f296 := Try.func131.trans (congrArg some (by kernel_rfl)),
  f297 := Try.func132.trans (congrArg some (by kernel_rfl)),
  f298 := Try.func133.trans (congrArg some (by kernel_rfl)),
  f299 := Try.func134.trans (congrArg some (by kernel_rfl)),
  f300 := Try.func136.trans (congrArg some (by kernel_rfl)),
  f301 := Try.func137.trans (congrArg some (by kernel_rfl)),
  f328 := Try.func145.trans (congrArg some (by kernel_rfl)),
  f329 := Try.func146.trans (congrArg some (by kernel_rfl)),
  f330 := Try.func147.trans (congrArg some (by kernel_rfl)),
  f331 := Try.func148.trans (congrArg some (by kernel_rfl)),
  f332 := Try.func149.trans (congrArg some (by kernel_rfl)),
  f343 := Try.func152.trans (congrArg some (by kernel_rfl)),
  t0 := Try.underlying0,
  a0 := Try.isAgg0,
  z0 := Try.sizeOf0,
  v0 := Try.zeroValue0,
  t3 := Try.underlying3,
  a3 := Try.isAgg3,
  z3 := Try.sizeOf3,
  v3 := Try.zeroValue3,
  t4 := Try.underlying4,
  a4 := Try.isAgg4,
  z4 := Try.sizeOf4,
  v4 := Try.zeroValue4,
  t5 := Try.underlying5,
  a5 := Try.isAgg5,
  z5 := Try.sizeOf5,
  v5 := Try.zeroValue5,
  t9 := Try.underlying9,
  a9 := Try.isAgg9,
  z9 := Try.sizeOf9,
  v9 := Try.zeroValue9,
  t28 := Try.underlying32,
  a28 := Try.isAgg32,
  z28 := Try.sizeOf32,
  v28 := Try.zeroValue32,
  t46 := Try.underlying104,
  a46 := Try.isAgg104,
  z46 := Try.sizeOf104,
  v46 := Try.zeroValue104,
  t51 := Try.underlying113,
  a51 := Try.isAgg113,
  z51 := Try.sizeOf113,
  v51 := Try.zeroValue113,
  t53 := Try.underlying89,
  a53 := Try.isAgg89,
  z53 := Try.sizeOf89,
  v53 := Try.zeroValue89,
  t131 := Try.underlying29,
  a131 := Try.isAgg29,
  z131 := Try.sizeOf29,
  v131 := Try.zeroValue29,
  t182 := Try.underlying119,
  a182 := Try.isAgg119,
  z182 := Try.sizeOf119,
  v182 := Try.zeroValue119,
  t183 := Try.underlying120,
  a183 := Try.isAgg120,
  z183 := Try.sizeOf120,
  v183 := Try.zeroValue120,
  t218 := Try.underlying127,
  a218 := Try.isAgg127,
  z218 := Try.sizeOf127,
  v218 := Try.zeroValue127,
  t222 := Try.underlying131,
  a222 := Try.isAgg131,
  z222 := Try.sizeOf131,
  v222 := Try.zeroValue131,
  t228 := Try.underlying135,
  a228 := Try.isAgg135,
  z228 := Try.sizeOf135,
  v228 := Try.zeroValue135,
  t229 := Try.underlying68,
  a229 := Try.isAgg68,
  z229 := Try.sizeOf68,
  v229 := Try.zeroValue68 }

section
open Go.Sort Go.Shelf
theorem R_putRowS {g n cap base : Nat} {ok : Nat → Prop} {w : World} {xs : List Int} (ys : List Int) (h : (Kd.int .i64).R 3 w base ok (.slice (some ⟨g, 0, none⟩) n cap) xs) (hl : ys.length = n) (m : Nat) :
    (Kd.int .i64).R 3 (putRow (Value.int .i64) (Go.Sort.ahead w m) g 0 ys.toArray) base ok (.slice (some ⟨g, 0, none⟩) n cap) ys := by
  obtain ⟨e1, _, _⟩ := Kd.R_reads' h
  have ho := Kd.own_of_R h
  have hok := h.1
  obtain ⟨h1, h2⟩ := ho
  rcases h2 with ⟨h2, _⟩ | ⟨g', cap', cur, h2, hg, hh, hn, hm, hs, ht⟩
  · cases h2
  injection h2 with h3 h4 h5
  injection h3 with h3
  injection h3 with h3
  subst h3 h5
  refine Kd.R_of_own ⟨by simp [encs], .inr ⟨g, cap, putCells (Value.int .i64) 0 ys.toArray cur, by rw [hl], hg, ?_, by rw [hl]; omega, hm, ?_, ?_⟩⟩ hok
  · unfold putRow mapBlock
    simp only [Array.getElem?_modify, if_true]
    show Option.map _ (w.heap[g]?) = _
    rw [hh]
    rfl
  · unfold putCells; rw [Array.size_mapIdx]; exact hs
  · apply List.ext_getElem?
    intro j
    have hcs : cur.size = cap := by rw [hs]; omega
    rw [List.getElem?_take, hl]
    by_cases hj : j < n
    · rw [if_pos (by omega), Array.getElem?_toList, putCells, Array.getElem?_mapIdx, Array.getElem?_eq_getElem (by omega), Option.map_some, if_pos ⟨by omega, by simp; omega⟩, encs, List.getElem?_map, List.getElem?_eq_getElem (by omega)]
      simp only [Option.map_some, Nat.sub_zero]
      rw [getElem!_pos ys.toArray j (by simpa using (by omega : j < ys.length))]
      simp
    · rw [if_neg (by omega), encs, List.getElem?_map, List.getElem?_eq_none (by omega)]
      rfl
theorem grow_below (W : World) (os : Array Obj) : Below W.heap.size W (grow W os) := by
  refine ⟨rfl, rfl, rfl, ?_, fun k hk => ?_⟩
  · unfold grow; simp
  · unfold grow; simp [Array.getElem?_append_left hk]
theorem sortI_c (g cap : Nat) (zs : List Int) (w wa : World) (ho : (Kd.int .i64).R 3 wa w.heap.size (fun _ => True) (.slice (some ⟨g, 0, none⟩) zs.length cap) zs) (hb : Below w.heap.size w wa) (hz : zs.length ≤ 1000000) :
    Calls Try.prog 80 #[.slice (some ⟨g, 0, none⟩) zs.length cap] wa fun e w' => e = .returned (.tuple #[]) ∧ (Kd.int .i64).R 3 w' w.heap.size (fun _ => True) (.slice (some ⟨g, 0, none⟩) zs.length cap) (zs.mergeSort fun x y => decide (x ≤ y)) ∧ Below w.heap.size w w' := by
  have hH : Holds (Value.int .i64) wa g 0 zs.toArray := fun j hj => by
    have hj' : j < zs.length := by simpa using hj
    obtain ⟨h1, h2⟩ := Kd.R_celln 0 ho (j : Int) (by omega) (by omega)
    rw [Int.toNat_natCast] at h1 h2
    rw [Nat.zero_add]
    refine ⟨h1.trans ?_, h2⟩
    have e : rdOf 0 zs (j : Int) = zs.toArray[j]! := by
      rw [rdOf, Int.toNat_natCast, List.getD_eq_getElem?_getD, List.getElem?_eq_getElem hj', getElem!_pos zs.toArray j (by simpa using hj')]
      simp
    exact congrArg (fun z => some (Value.int .i64 z)) e
  have hgl := (R_ownlt ho rfl).2
  have hgb := Kd.R_base ho g rfl
  refine (Any.slices_Sort_int (P := Try.prog) Lsi g 0 cap zs wa hH hgl (by omega)).mono ?_
  rintro e w' ⟨he, n, os, hw⟩
  subst hw
  have hr := R_putRowS (zs.mergeSort fun x y => decide (x ≤ y)) ho (by rw [List.length_mergeSort]) n
  have hbp : Below w.heap.size w (putRow (Value.int .i64) (Go.Sort.ahead wa n) g 0 (zs.mergeSort fun x y => decide (x ≤ y)).toArray) := hb.trans ⟨rfl, rfl, rfl, by rw [Go.Sort.size_putRow]; exact Nat.le_refl _, fun k hk => by
    unfold putRow mapBlock
    simp only [Array.getElem?_modify, if_neg (show ¬ g = k by omega)]
    rfl⟩
  exact ⟨he, Kd.R_below hr (grow_below _ os), below_step hbp (grow_below _ os)⟩
end
theorem infoI : (Try.prog.info? 3).map (fun i => (i.zero, i.size, i.bytes)) = some (some (.int .i64 0), 1, 8) := by kernel_rfl
theorem regA_no {a b m : Int} {bk : Bool} (h : ¬ ((0 ≤ a ∧ a ≤ 36524) ∧ (0 ≤ b ∧ b ≤ 36524) ∧ a < b ∧ (1 ≤ m ∧ m ≤ 120))) : regA a b m bk = ([], false) := if_neg h
theorem regA_yes {a b m : Int} {bk : Bool} (h : (0 ≤ a ∧ a ≤ 36524) ∧ (0 ≤ b ∧ b ≤ 36524) ∧ a < b ∧ (1 ≤ m ∧ m ≤ 120)) : regA a b m bk = if (regS a b m bk).length ≤ 39 then (a :: (regM a b m bk ++ [b]), true) else ([], false) := if_pos h
theorem regL_go {lo hi day s : Int} {k : Nat} (hk : k ≤ 1201) (h : (regD day s k).2 = true ∧ lo < (regD day s k).1 ∧ (regD day s k).1 < hi) : regL lo hi day s (1202 - k) k = (regD day s k).1 :: regL lo hi day s (1202 - (k + 1)) (k + 1) := by
  rw [show 1202 - k = (1202 - (k + 1)) + 1 from by omega, regL, if_pos h]
theorem regL_end {lo hi day s : Int} {k : Nat} (hk : k ≤ 1201) (h : ¬ ((regD day s k).2 = true ∧ lo < (regD day s k).1 ∧ (regD day s k).1 < hi)) : regL lo hi day s (1202 - k) k = [] := by
  rw [show 1202 - k = (1202 - (k + 1)) + 1 from by omega, regL, if_neg h]
theorem mulB {k : Nat} {s : Int} (hk : k ≤ 1201) (hs : -120 ≤ s ∧ s ≤ 120) : -144120 ≤ (k : Int) * s ∧ (k : Int) * s ≤ 144120 := by
  have h1 := Int.mul_le_mul_of_nonneg_left hs.2 (show 0 ≤ (k : Int) by omega)
  have h2 := Int.mul_le_mul_of_nonneg_left hs.1 (show 0 ≤ (k : Int) by omega)
  omega
end Go.Proofs.Ytlmdghcpcohamaa.O
