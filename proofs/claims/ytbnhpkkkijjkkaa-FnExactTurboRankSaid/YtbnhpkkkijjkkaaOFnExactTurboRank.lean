/- Walks of our own for the law FnExactTurboRank: each function's contract in plain Lean. No condition beyond the bounds that each contract names. -/
import Derived.Test.YtbnhpkkkijjkkaaPureFnExactTurboRank
import Derived.Shelf.SlicesQ.IndexFunc
import Derived.Shelf.SlLaysH0
namespace Go.Proofs.Ytbnhpkkkijjkkaa.O
open Go.RowKit Go.Proofs.YtbnhpkkkijjkkaaW.PrintWords Go.Proofs.YtbnhpkkkijjkkaaW.PrintLast Go.Proofs.YtbnhpkkkijjkkaaW.PrintMore Go.Proofs.Ytbnhpkkkijjkkaa.PFnExactTurboRank Go.Proofs.Ytbnhpkkkijjkkaa.EvKit Go.Proofs.Ytbnhpkkkijjkkaa.Pure
set_option linter.unusedVariables false
set_option linter.unusedSimpArgs false
attribute [local go_sem] max2_int min2_int max_two min_two max_three min_three max_four min_four
/-- A number of rounds at which a printed function answers. -/
theorem roundsOf {α : Type} {g : Nat → Option α} {r : α} (h : Ev g r) : ∃ k, g k = some r := Ev.rounds h
theorem cellsOf {w : World} {b o : Nat} {xs : List Int} (h : (Kd.int .i64).C w (some ⟨b, o, none⟩) xs.length xs) : ∀ j, j < xs.length → w.cell? ⟨b, o + j, none⟩ = some (.int .i64 xs[j]!) := by
  intro j hj
  obtain ⟨ad, e, hc⟩ := Kd.at_int h (j : Int) (by omega) (by omega)
  injection e with e
  subst e
  rw [add_at] at hc
  rw [Int.toNat_natCast] at hc
  rw [hc, rd, Int.toNat_natCast, List.getD_eq_getElem?_getD, List.getElem?_eq_getElem hj, List.getElem!_eq_getElem?_getD, List.getElem?_eq_getElem hj]
  rfl
/-- Between two numbers. -/
def Iv (a b : Nat) (k : Nat) : Prop := a ≤ k ∧ k < b
theorem R_iv {α : Type} {d : Kd α} {e base : Nat} {ok : Nat → Prop} {w : World} {v : Value} {xs : List α} (h : d.R e w base ok v xs) : d.R e w base (Iv base w.heap.size) v xs := Kd.R_mono (Kd.R_bound h) (fun _ hk => ⟨hk.2.1, hk.2.2.1⟩)
/-- Where a row of one's own that is not empty begins. -/
theorem R_head {α : Type} {d : Kd α} {e base : Nat} {ok : Nat → Prop} {w : World} {A : Option Addr} {n c : Nat} {xs : List α} (h : d.R e w base ok (.slice A n c) xs) (hp : 0 < xs.length) : ∃ b, A = some ⟨b, 0, none⟩ := by
  obtain ⟨g, cap, e1, _⟩ := Kd.R_form h hp
  injection e1 with e1
  exact ⟨g, e1⟩
theorem R_ivw {α : Type} {d : Kd α} {e base a b : Nat} {ok : Nat → Prop} {w : World} {v : Value} {xs : List α} (h : d.R e w base ok v xs) (ha : a ≤ base) (hb : b ≤ base) : d.R e w b (Iv a w.heap.size) v xs := Kd.R_lower (Kd.R_mono (Kd.R_bound h) (fun _ hk => ⟨Nat.le_trans ha hk.2.1, hk.2.2.1⟩)) hb
/-- A row whose elements hold no rows lies in its own block alone. -/
theorem R_flat {α : Type} {d : Kd α} {e base : Nat} {ok ok' : Nat → Prop} {w : World} {v : Value} {xs : List α} (hf : ∀ (w : World) (b : Nat) (p q : Nat → Prop) x cs, d.M w b p x cs → d.M w b q x cs) (h : d.R e w base ok v xs) (h0 : ∀ k, v.ownBlock = some k → ok' k) : d.R e w base ok' v xs := ⟨h0, h.2.imp_ (fun _ _ hp => hf _ _ _ _ _ _ hp)⟩
theorem flat_int (w : World) (b : Nat) (p q : Nat → Prop) (x : Int) (cs : List Value) (h : (Kd.int .i64).M w b p x cs) : (Kd.int .i64).M w b q x cs := h
theorem cellsOfD {w : World} {b o m : Nat} {xs : List Int} (h : (Kd.int .i64).C w (some ⟨b, o, none⟩) m xs) : ∀ j, j < xs.length → w.cell? ⟨b, o + j, none⟩ = some (.int .i64 (xs.getD j 0)) := by
  intro j hj
  have hl := Kd.C_len h
  obtain ⟨ad, e, hc⟩ := Kd.at_int h (j : Int) (by omega) (by omega)
  injection e with e
  subst e
  rw [add_at, Int.toNat_natCast] at hc
  exact hc
theorem R_C {α : Type} {d : Kd α} {e base : Nat} {ok : Nat → Prop} {w : World} {A : Option Addr} {n c : Nat} {xs : List α} (h : d.R e w base ok (.slice A n c) xs) : d.C w A n xs := by
  obtain ⟨rfl, _, hc⟩ := Kd.R_reads' h
  exact hc
theorem R_cap {α : Type} {d : Kd α} {e base : Nat} {ok : Nat → Prop} {w : World} {A : Option Addr} {n c : Nat} {xs : List α} (h : d.R e w base ok (.slice A n c) xs) : n ≤ c := (Kd.R_reads' h).2.1
theorem R_same {α : Type} {d : Kd α} {e base : Nat} {ok : Nat → Prop} {w w1 : World} {v : Value} {xs : List α} (h : d.R e w base ok v xs) (hg : w.grownBy w1 none) : d.R e w1 base ok v xs := Kd.R_grown h hg (fun _ _ e => by cases e)
theorem R_block {α : Type} {d : Kd α} {e base g n c : Nat} {ok : Nat → Prop} {w : World} {xs : List α} (h : d.R e w base ok (.slice (some ⟨g, 0, none⟩) n c) xs) (hp : 0 < n) : ∃ cells, w.heap[g]? = some (.cells cells e (0, 0)) := by
  obtain ⟨e1, _, _⟩ := Kd.R_reads' h
  obtain ⟨g', cap, e2, _, _, cells, h3⟩ := Kd.R_form h (by omega)
  injection e2 with e2 _ _
  injection e2 with e2
  injection e2 with e2
  subst e2
  exact ⟨cells, h3⟩
def Lcq_ren : Go.Shelf.Ren := ⟨fun | 6 => 90 | 8 => 68 | n => n, fun | 22 => 30 | 23 => 49 | 25 => 81 | n => n, fun | n => n⟩
theorem Lcq : Go.Proofs.SlLaysH0.n8 Try.prog Lcq_ren := {
  mixed := by kernel_rfl,
  f6 := ⟨Try.f90.name, by decide, Try.func90.trans (congrArg some (by kernel_rfl))⟩,
  f8 := ⟨Try.f68.name, by decide, Try.func68.trans (congrArg some (by kernel_rfl))⟩,
  t0 := Try.underlying0,
  a0 := Try.isAgg0,
  z0 := Try.sizeOf0,
  v0 := Try.zeroValue0,
  t3 := Try.underlying3,
  a3 := Try.isAgg3,
  z3 := Try.sizeOf3,
  v3 := Try.zeroValue3,
  t4 := Try.underlying4,
  a4 := Try.isAgg4,
  z4 := Try.sizeOf4,
  v4 := Try.zeroValue4,
  t22 := Try.underlying30,
  a22 := Try.isAgg30,
  z22 := Try.sizeOf30,
  v22 := Try.zeroValue30,
  t25 := Try.underlying81,
  a25 := Try.isAgg81,
  z25 := Try.sizeOf81,
  v25 := Try.zeroValue81 }

def encT (x : S49) : List Value := [.int .i64 x.f0, .int .i64 x.f1]
theorem hasRank (w : World) (B : Nat) (r : Int) (hB : B < w.heap.size) (hc : w.cell? ⟨B, 0, none⟩ = some (.int .i64 r)) : PredBelow Try.prog 69 #[.pointer (some ⟨B, 0, none⟩)] (fun x => .agg (encT x).toArray) (hasR r) w := fun W x hb => by
  have hc' : W.cell? ⟨B, 0, none⟩ = some (.int .i64 r) := (hb.cell (p := ⟨B, 0, none⟩) hB).trans hc
  have hlt : B < W.heap.size := World.block_lt_of_cell? W _ hc'
  have hy : ∀ O, (W.alloc O).cell? ⟨B, 0, none⟩ = some (.int .i64 r) := fun O => ((below_alloc (Below.refl W.heap.size W) O).cell (p := ⟨B, 0, none⟩) hlt).trans hc'
  have HB0 := Aside0.mk hb
  clear hc' hlt hb hc hB
  unfold encT hasR
  go_enter Try.func69, Try.ntmps69
  go_wp2
  go_ret
  exact ⟨rfl, (by repeat (first | (with_reducible first | exact HB0.out | apply below_alloc | apply pw_below_drewN | apply below_drew1) | exact HB0.out))⟩
theorem indexEmptyT_c (A : Option Addr) (c : Nat) (fv : Value) (w : World) :
    Calls Try.prog 90 #[.slice A 0 c, fv] w fun e w' => e = .returned (.int .i64 (-1)) ∧ Below w.heap.size w w' := by
  have HB0 : Below w.heap.size w w := Below.refl _ _
  go_enter Try.func90, Try.ntmps90
  go_wp2
  refine wp_loop_rounds 1 ?_
  rw [rounds_succ]
  go_wp2
  go_ret
  exact ⟨rfl, (by repeat (first | (with_reducible first | exact HB0 | apply below_alloc | apply pw_below_drewN | apply below_drew1) | exact HB0))⟩
theorem containsEmptyT_c (A : Option Addr) (c : Nat) (fv : Value) (w : World) :
    Calls Try.prog 68 #[.slice A 0 c, fv] w fun e w' => e = .returned (.bool false) ∧ Below w.heap.size w w' := by
  have HB0 : Below w.heap.size w w := Below.refl _ _
  go_enter Try.func68, Try.ntmps68
  go_wp2_with (go_at_call 90; refine (indexEmptyT_c A c _ _).mono ?_; rintro e w1 ⟨rfl, hb⟩; have HB := Aside0.mk (below_step (by repeat (first | (with_reducible first | exact HB0 | apply below_alloc | apply pw_below_drewN | apply below_drew1) | exact HB0)) hb); clear hb)
  go_ret
  exact ⟨rfl, (by repeat (first | (with_reducible first | exact HB.out | apply below_alloc | apply pw_below_drewN | apply below_drew1) | exact HB.out))⟩
theorem containsT_c (A : Option Addr) (c : Nat) (xs : List S49) (r : Int) (B : Nat) (w : World) (hr : Kd.C k49 w A xs.length xs) (ha : 0 < xs.length → ∃ b, A = some ⟨b, 0, none⟩) (hB : B < w.heap.size) (hc : w.cell? ⟨B, 0, none⟩ = some (.int .i64 r)) :
    Calls Try.prog 68 #[.slice A xs.length c, .func (.func 69) #[] #[.pointer (some ⟨B, 0, none⟩)]] w fun e w' => e = .returned (.bool (xs.any (hasR r))) ∧ Below w.heap.size w w' := by
  by_cases hp0 : 0 < xs.length
  · obtain ⟨b, rfl⟩ := ha hp0
    have cell : ∀ j, j < xs.length → ∀ i v, (encT xs[j]!)[i]? = some v → w.cell? ⟨b, 0 + j * 2 + i, none⟩ = some v := by
      intro j hj i v hv
      obtain ⟨ad, e, h0, h1⟩ := at_T49 hr (j : Int) (by omega) (by omega)
      injection e with e
      subst e
      have hj' : xs[j]! = rd_T49 xs (j : Int) := by
        rw [rd_T49, Int.toNat_natCast, List.getD_eq_getElem?_getD, List.getElem?_eq_getElem hj, List.getElem!_eq_getElem?_getD, List.getElem?_eq_getElem hj]
        rfl
      rw [add_at, Int.toNat_natCast] at h0 h1
      rw [hj'] at hv
      unfold encT at hv
      match i, hv with
      | 0, hv => rw [Nat.add_zero, h0]; simpa using hv
      | 1, hv => rw [h1]; simpa using hv
      | i + 2, hv => simp at hv
    have hb : b < w.heap.size := World.block_lt_of_cell? w _ (cell 0 hp0 0 _ rfl)
    have h := AnyQ.slices_ContainsFunc Lcq 2 Try.isAgg49 Try.sizeOf49 encT (fun _ => rfl) (hasR r) 69 #[.pointer (some ⟨B, 0, none⟩)] (enters_of Try.func69 (by kernel_rfl) rfl) b 0 xs.length c xs w (hasRank w B r hB hc) (Nat.le_refl _) (Kd.C_max hr) hb cell
    rw [List.take_length] at h
    exact h
  · obtain rfl : xs = [] := List.length_eq_zero_iff.mp (by omega)
    exact containsEmptyT_c A c _ w
set_option maxHeartbeats 8000000 in
set_option maxRecDepth 100000 in
theorem impl_c (A0 : Option Addr) (c0 : Nat) (xs : List S49) (cash n d : Int) (w : World) (hr0 : Kd.C k49 w A0 xs.length xs) (hc0 : xs.length ≤ c0) (ha0 : 0 < xs.length → ∃ b, A0 = some ⟨b, 0, none⟩) (hn : xs.length ≤ 1048576) :
    Calls Try.prog 29 #[.slice A0 xs.length c0, .int .i64 cash, .agg #[.int .i64 n, .int .i64 d]] w fun e w' => e = .returned (.tuple #[.int .i64 (turA xs cash n d).1, .bool (turA xs cash n d).2]) ∧ Below w.heap.size w w' := by
  obtain ⟨kv, hv⟩ := roundsOf (implValidT_ev xs hn)
  obtain ⟨kf, hf⟩ := roundsOf (implIsF_ev n d)
  obtain ⟨ku, hu⟩ := roundsOf ranksUp_ev
  have HU := Aside0.mk hu
  have HR0 := Aside0.mk hr0
  have HC0 := Aside0.mk hc0
  have HA0 := Aside0.mk ha0
  have HBX := Aside0.mk (below_alloc (Below.refl w.heap.size w) (.cells #[.int .i64 n, .int .i64 d] 35 (0, 0)))
  have HBK := Aside0.mk (blk_new w (.cells #[.int .i64 n, .int .i64 d] 35 (0, 0)))
  have hw := within_eq cash 0 1000000000
  clear hr0 hc0 ha0 hu
  by_cases g : goodT xs = true
  · rw [g] at hv
    have HV := Aside0.mk hv
    by_cases hc : 0 ≤ cash ∧ cash ≤ 1000000000
    · rw [decide_eq_true hc] at hw
      have HW := Aside0.mk hw
      by_cases hF : okF n d
      · rw [decide_eq_true hF] at hf
        have HF := Aside0.mk hf
        have hfin : turA xs cash n d = turF xs cash n d ranksL := by unfold turA; rw [if_pos ⟨g, hc, hF⟩]
        rw [hfin]
        obtain ⟨FIN, hFIN⟩ : ∃ F, F = turF xs cash n d ranksL := ⟨_, rfl⟩
        rw [← hFIN]
        have HFIN := Aside0.mk hFIN
        have HG := Aside0.mk g
        have HC := Aside0.mk hc
        clear hv hf hw hFIN hfin g hF hc
        go_enter Try.func29, Try.ntmps29
        go_wp2_with fail
        refine (impl_IsValidTranches.calls kv _ _ xs true _ (by repeat (first | exact (Kd.C_below HR0.out HBX.out) | (with_reducible refine Kd.C_alloc ?_ _) | (with_reducible refine Kd.C_drewN ?_ _) | (with_reducible refine Kd.C_drew ?_))) HC0.out HV.out).mono ?_
        rintro e w1 ⟨rfl, hb⟩
        have n_ := Aside0.mk (blk_below (blk_below HBK.out (by repeat (first | (with_reducible first | exact Below.refl _ _ | apply below_alloc | apply pw_below_drewN | apply below_drew1) | exact Below.refl _ _))) hb); clear HBK; have HBK := n_; clear n_; have n_ := Aside0.mk (below_step (by repeat (first | (with_reducible first | exact HBX.out | apply below_alloc | apply pw_below_drewN | apply below_drew1) | exact HBX.out)) hb); clear HBX; have HBX := n_; clear n_ hb
        go_wp2_with fail
        refine (impl_within.calls cash 0 1000000000 true _ HW.out).mono ?_
        rintro e w2 ⟨rfl, ⟨q1, rfl⟩⟩
        have y0 : w1.cell? ⟨w.heap.size, 0, none⟩ = some (.int .i64 n) := (blk_cell HBK.out 0).trans rfl
        have y1 : w1.cell? ⟨w.heap.size, 1, none⟩ = some (.int .i64 d) := (blk_cell HBK.out 1).trans rfl
        go_wp2_with fail
        clear y0 y1
        refine (impl_isFraction.calls kf n d true _ HF.out).mono ?_
        rintro e w3 ⟨rfl, hb⟩
        have n_ := Aside0.mk (blk_below (blk_below HBK.out (by repeat (first | (with_reducible first | exact Below.refl _ _ | apply below_alloc | apply pw_below_drewN | apply below_drew1) | exact Below.refl _ _))) hb); clear HBK; have HBK := n_; clear n_; have n_ := Aside0.mk (below_step (by repeat (first | (with_reducible first | exact HBX.out | apply below_alloc | apply pw_below_drewN | apply below_drew1) | exact HBX.out)) hb); clear HBX; have HBX := n_; clear n_ hb
        go_wp2_with fail
        refine (impl_ranksUp.calls ku ranksL _ HU.out).mono ?_
        rintro e w4 ⟨v27, rfl, ho, hb⟩
        have HO := Aside0.mk (Kd.R_lower ho (show w.heap.size ≤ _ from below_size (by repeat (first | (with_reducible first | exact HBX.out | apply below_alloc | apply pw_below_drewN | apply below_drew1) | exact HBX.out))))
        have n_ := Aside0.mk (blk_below (blk_below HBK.out (by repeat (first | (with_reducible first | exact Below.refl _ _ | apply below_alloc | apply pw_below_drewN | apply below_drew1) | exact Below.refl _ _))) hb); clear HBK; have HBK := n_; clear n_; have n_ := Aside0.mk (below_step (by repeat (first | (with_reducible first | exact HBX.out | apply below_alloc | apply pw_below_drewN | apply below_drew1) | exact HBX.out)) hb); clear HBX; have HBX := n_; clear n_ hb
        clear ho
        obtain ⟨gr, cap, hv27, hg1, hg2, cells, hg3⟩ := Kd.R_form HO.out (by decide)
        obtain rfl : v27 = .slice (some ⟨gr, 0, none⟩) 10 cap := hv27
        clear hg3 cells hg2
        go_wp2_with fail
        go_loopw [29] (fun v29 wr => ∃ (pre rest : List Int), Aside0 (ranksL = pre ++ rest) ∧ v29 = .int .i64 pre.length ∧ Aside0 (turF xs cash n d rest = FIN) ∧ Aside0 ((Kd.int .i64).R 3 wr w.heap.size (fun _ => True) (.slice (some ⟨gr, 0, none⟩) 10 cap) ranksL) ∧ Aside0 (wr.heap[w.heap.size]? = some (.cells #[.int .i64 n, .int .i64 d] 35 (0, 0))) ∧ Aside0 (Below w.heap.size w wr)) (fun v29 _ => 10 - (intOf v29).toNat)
        case atStart => exact ⟨[], ranksL, ⟨rfl⟩, rfl, ⟨HFIN.out.symm⟩, HO, HBK, HBX⟩
        case round =>
          clear HO HBK HBX
          obtain ⟨pre, rest, HX, rfl, HT, HO, HBK, HBX⟩ := hrel
          cases rest with
          | nil =>
            have hl10 : ¬ pre.length < 10 := by have h := len_nil HX.out; have : ranksL.length = 10 := rfl; omega
            have c : decide (pre.length < 10) = false := decide_eq_false hl10
            have c2 : decide ((pre.length : Int) < 10) = false := decide_eq_false (by omega)
            go_wp2
            go_ret2
            rw [← HT.out]
            exact ⟨rfl, HBX.out⟩
          | cons r t =>
            have hlen : ranksL.length = 10 := rfl
            have hl := len_cons HX.out
            have hpl : (pre.length : Int) < 10 := by omega
            have yr : wr.cell? ⟨gr, pre.length, none⟩ = some (.int .i64 r) := by
              have h := (Kd.R_celln 0 HO.out (pre.length : Int) (by omega) hpl).1
              rw [Int.toNat_natCast] at h
              rw [h]
              have e := rd_at HX.out (i := (pre.length : Int)) rfl
              exact congrArg (fun z => some (Value.int .i64 z)) e
            have c : decide (pre.length < 10) = true := decide_eq_true (by omega)
            have c2 : decide ((pre.length : Int) < 10) = true := decide_eq_true (by omega)
            clear hl hlen
            obtain ⟨kc, hkc⟩ := roundsOf (implCov_ev xs HG.out cash r HC.out)
            obtain ⟨km, hkm⟩ := roundsOf (implCmp_ev (covI xs cash r).1 (covI xs cash r).2.1 n d)
            have hturn : turF xs cash n d (r :: t) = if xs.any (hasR r) = true ∧ (covI xs cash r).2.2 = true ∧ (cmpA (covI xs cash r).1 (covI xs cash r).2.1 n d).1 < 0 then (r, true) else turF xs cash n d t := rfl
            have HCT := Aside0.mk (fun W (hr : Kd.C k49 W A0 xs.length xs) (hB : wr.heap.size < W.heap.size) hc => containsT_c A0 c0 xs r wr.heap.size W hr HA0.out hB hc)
            generalize xs.any (hasR r) = b1 at hturn HCT
            generalize covI xs cash r = cv at hkc hkm hturn
            obtain ⟨f1, f2, b2⟩ := cv
            dsimp only at hkm hturn
            generalize cmpA f1 f2 n d = cm at hkm hturn
            obtain ⟨o1, o2⟩ := cm
            dsimp only at hturn
            rw [HT.out] at hturn
            have HCV := Aside0.mk hkc
            have HCM := Aside0.mk hkm
            have HTU := Aside0.mk hturn
            clear hkc hkm hturn
            have HBA := Aside0.mk (blk_new wr (.cells #[.int .i64 r] 3 (0, 0)))
            go_wp2_with fail
            refine (HCT.out _ (by repeat (first | exact (Kd.C_below HR0.out HBX.out) | (with_reducible refine Kd.C_alloc ?_ _) | (with_reducible refine Kd.C_drewN ?_ _) | (with_reducible refine Kd.C_drew ?_))) (by simp) (by simp)).mono ?_
            rintro e w5 ⟨rfl, hb⟩
            have n_ := Aside0.mk (Kd.R_below (by (with_reducible repeat (first | apply Kd.R_alloc | apply Kd.R_drewN | apply Kd.R_drew)); exact HO.out) hb); clear HO; have HO := n_; clear n_; have n_ := Aside0.mk (blk_below (blk_below HBK.out (by repeat (first | (with_reducible first | exact Below.refl _ _ | apply below_alloc | apply pw_below_drewN | apply below_drew1) | exact Below.refl _ _))) hb); clear HBK; have HBK := n_; clear n_; have n_ := Aside0.mk (blk_below (blk_below HBA.out (by repeat (first | (with_reducible first | exact Below.refl _ _ | apply below_alloc | apply pw_below_drewN | apply below_drew1) | exact Below.refl _ _))) hb); clear HBA; have HBA := n_; clear n_; have n_ := Aside0.mk (below_step (by repeat (first | (with_reducible first | exact HBX.out | apply below_alloc | apply pw_below_drewN | apply below_drew1) | exact HBX.out)) hb); clear HBX; have HBX := n_; clear n_ hb
            cases b1 with
            | false =>
              have hgo := HTU.out
              rw [if_neg (fun q => Bool.false_ne_true q.1)] at hgo
              have HGO := Aside0.mk hgo
              clear hgo
              go_wp2
              go_roundw
              case rel => exact ⟨pre ++ [r], t, ⟨snoc HX.out⟩, by rw [len_snoc], ⟨HGO.out.symm⟩, ⟨(by (with_reducible repeat (first | apply Kd.R_alloc | apply Kd.R_drewN | apply Kd.R_drew)); exact HO.out)⟩, HBK, ⟨(by repeat (first | (with_reducible first | exact HBX.out | apply below_alloc | apply pw_below_drewN | apply below_drew1) | exact HBX.out))⟩⟩
              case measure => simp [intOf]; omega
            | true =>
              have ya : w5.cell? ⟨wr.heap.size, 0, none⟩ = some (.int .i64 r) := (blk_cell HBA.out 0).trans rfl
              go_wp2_with fail
              clear ya
              refine (impl_coverageOf.calls kc _ _ xs cash r f1 f2 b2 _ (by repeat (first | exact (Kd.C_below HR0.out HBX.out) | (with_reducible refine Kd.C_alloc ?_ _) | (with_reducible refine Kd.C_drewN ?_ _) | (with_reducible refine Kd.C_drew ?_))) HC0.out HCV.out).mono ?_
              rintro e w6 ⟨rfl, hb⟩
              have n_ := Aside0.mk (Kd.R_below (by (with_reducible repeat (first | apply Kd.R_alloc | apply Kd.R_drewN | apply Kd.R_drew)); exact HO.out) hb); clear HO; have HO := n_; clear n_; have n_ := Aside0.mk (blk_below (blk_below HBK.out (by repeat (first | (with_reducible first | exact Below.refl _ _ | apply below_alloc | apply pw_below_drewN | apply below_drew1) | exact Below.refl _ _))) hb); clear HBK; have HBK := n_; clear n_; have n_ := Aside0.mk (blk_below (blk_below HBA.out (by repeat (first | (with_reducible first | exact Below.refl _ _ | apply below_alloc | apply pw_below_drewN | apply below_drew1) | exact Below.refl _ _))) hb); clear HBA; have HBA := n_; clear n_; have n_ := Aside0.mk (below_step (by repeat (first | (with_reducible first | exact HBX.out | apply below_alloc | apply pw_below_drewN | apply below_drew1) | exact HBX.out)) hb); clear HBX; have HBX := n_; clear n_ hb
              cases b2 with
              | false =>
                have hgo := HTU.out
                rw [if_neg (fun q => Bool.false_ne_true q.2.1)] at hgo
                have HGO := Aside0.mk hgo
                clear hgo
                go_wp2
                go_roundw
                case rel => exact ⟨pre ++ [r], t, ⟨snoc HX.out⟩, by rw [len_snoc], ⟨HGO.out.symm⟩, ⟨(by (with_reducible repeat (first | apply Kd.R_alloc | apply Kd.R_drewN | apply Kd.R_drew)); exact HO.out)⟩, ⟨blk_alloc HBK.out _⟩, ⟨(by repeat (first | (with_reducible first | exact HBX.out | apply below_alloc | apply pw_below_drewN | apply below_drew1) | exact HBX.out))⟩⟩
                case measure => simp [intOf]; omega
              | true =>
                have y0 : w6.cell? ⟨w.heap.size, 0, none⟩ = some (.int .i64 n) := (blk_cell HBK.out 0).trans rfl
                have y1 : w6.cell? ⟨w.heap.size, 1, none⟩ = some (.int .i64 d) := (blk_cell HBK.out 1).trans rfl
                have lw : w.heap.size < w6.heap.size := blk_lt HBK.out
                have z0 : ∀ O, (w6.alloc O).cell? ⟨w.heap.size, 0, none⟩ = some (.int .i64 n) := fun O => ((below_alloc (Below.refl w6.heap.size w6) O).cell (p := ⟨w.heap.size, 0, none⟩) lw).trans y0
                have z1 : ∀ O, (w6.alloc O).cell? ⟨w.heap.size, 1, none⟩ = some (.int .i64 d) := fun O => ((below_alloc (Below.refl w6.heap.size w6) O).cell (p := ⟨w.heap.size, 1, none⟩) lw).trans y1
                go_wp2_with fail
                clear z0 z1 y0 y1 lw
                refine (impl_CompareFractions.calls km f1 f2 n d o1 o2 _ HCM.out).mono ?_
                rintro e w7 ⟨rfl, hb⟩
                have n_ := Aside0.mk (Kd.R_below (by (with_reducible repeat (first | apply Kd.R_alloc | apply Kd.R_drewN | apply Kd.R_drew)); exact HO.out) hb); clear HO; have HO := n_; clear n_; have n_ := Aside0.mk (blk_below (blk_below HBK.out (by repeat (first | (with_reducible first | exact Below.refl _ _ | apply below_alloc | apply pw_below_drewN | apply below_drew1) | exact Below.refl _ _))) hb); clear HBK; have HBK := n_; clear n_; have n_ := Aside0.mk (blk_below (blk_below HBA.out (by repeat (first | (with_reducible first | exact Below.refl _ _ | apply below_alloc | apply pw_below_drewN | apply below_drew1) | exact Below.refl _ _))) hb); clear HBA; have HBA := n_; clear n_; have n_ := Aside0.mk (below_step (by repeat (first | (with_reducible first | exact HBX.out | apply below_alloc | apply pw_below_drewN | apply below_drew1) | exact HBX.out)) hb); clear HBX; have HBX := n_; clear n_ hb
                by_cases ho1 : o1 < 0
                · have cc : decide (o1 < 0) = true := decide_eq_true ho1
                  have hgo := HTU.out
                  rw [if_pos ⟨by trivial, by trivial, ho1⟩] at hgo
                  have HGO := Aside0.mk hgo
                  have ya : w7.cell? ⟨wr.heap.size, 0, none⟩ = some (.int .i64 r) := (blk_cell HBA.out 0).trans rfl
                  clear hgo ho1
                  go_wp2
                  go_ret2
                  rw [HGO.out]
                  exact ⟨rfl, (by repeat (first | (with_reducible first | exact HBX.out | apply below_alloc | apply pw_below_drewN | apply below_drew1) | exact HBX.out))⟩
                · have cc : decide (o1 < 0) = false := decide_eq_false ho1
                  have hgo := HTU.out
                  rw [if_neg (fun q => ho1 q.2.2)] at hgo
                  have HGO := Aside0.mk hgo
                  clear hgo ho1
                  go_wp2
                  go_roundw
                  case rel => exact ⟨pre ++ [r], t, ⟨snoc HX.out⟩, by rw [len_snoc], ⟨HGO.out.symm⟩, ⟨(by (with_reducible repeat (first | apply Kd.R_alloc | apply Kd.R_drewN | apply Kd.R_drew)); exact HO.out)⟩, HBK, ⟨(by repeat (first | (with_reducible first | exact HBX.out | apply below_alloc | apply pw_below_drewN | apply below_drew1) | exact HBX.out))⟩⟩
                  case measure => simp [intOf]; omega
      · rw [decide_eq_false hF] at hf
        have HF := Aside0.mk hf
        have HFN := Aside0.mk (show turA xs cash n d = (0, false) from by unfold turA; rw [if_neg (fun q => hF q.2.2)])
        clear hv hf hw g hF hc
        go_enter Try.func29, Try.ntmps29
        go_wp2_with fail
        refine (impl_IsValidTranches.calls kv _ _ xs true _ (by repeat (first | exact (Kd.C_below HR0.out HBX.out) | (with_reducible refine Kd.C_alloc ?_ _) | (with_reducible refine Kd.C_drewN ?_ _) | (with_reducible refine Kd.C_drew ?_))) HC0.out HV.out).mono ?_
        rintro e w1 ⟨rfl, hb⟩
        have n_ := Aside0.mk (blk_below (blk_below HBK.out (by repeat (first | (with_reducible first | exact Below.refl _ _ | apply below_alloc | apply pw_below_drewN | apply below_drew1) | exact Below.refl _ _))) hb); clear HBK; have HBK := n_; clear n_; have n_ := Aside0.mk (below_step (by repeat (first | (with_reducible first | exact HBX.out | apply below_alloc | apply pw_below_drewN | apply below_drew1) | exact HBX.out)) hb); clear HBX; have HBX := n_; clear n_ hb
        go_wp2_with fail
        refine (impl_within.calls cash 0 1000000000 true _ HW.out).mono ?_
        rintro e w2 ⟨rfl, ⟨q1, rfl⟩⟩
        have y0 : w1.cell? ⟨w.heap.size, 0, none⟩ = some (.int .i64 n) := (blk_cell HBK.out 0).trans rfl
        have y1 : w1.cell? ⟨w.heap.size, 1, none⟩ = some (.int .i64 d) := (blk_cell HBK.out 1).trans rfl
        go_wp2_with fail
        clear y0 y1
        refine (impl_isFraction.calls kf n d false _ HF.out).mono ?_
        rintro e w3 ⟨rfl, hb⟩
        have n_ := Aside0.mk (blk_below (blk_below HBK.out (by repeat (first | (with_reducible first | exact Below.refl _ _ | apply below_alloc | apply pw_below_drewN | apply below_drew1) | exact Below.refl _ _))) hb); clear HBK; have HBK := n_; clear n_; have n_ := Aside0.mk (below_step (by repeat (first | (with_reducible first | exact HBX.out | apply below_alloc | apply pw_below_drewN | apply below_drew1) | exact HBX.out)) hb); clear HBX; have HBX := n_; clear n_ hb
        go_wp2
        go_ret2
        rw [HFN.out]
        exact ⟨rfl, (by repeat (first | (with_reducible first | exact HBX.out | apply below_alloc | apply pw_below_drewN | apply below_drew1) | exact HBX.out))⟩
    · rw [decide_eq_false hc] at hw
      have HW := Aside0.mk hw
      have HFN := Aside0.mk (show turA xs cash n d = (0, false) from by unfold turA; rw [if_neg (fun q => hc q.2.1)])
      clear hv hf hw g hc
      go_enter Try.func29, Try.ntmps29
      go_wp2_with fail
      refine (impl_IsValidTranches.calls kv _ _ xs true _ (by repeat (first | exact (Kd.C_below HR0.out HBX.out) | (with_reducible refine Kd.C_alloc ?_ _) | (with_reducible refine Kd.C_drewN ?_ _) | (with_reducible refine Kd.C_drew ?_))) HC0.out HV.out).mono ?_
      rintro e w1 ⟨rfl, hb⟩
      have n_ := Aside0.mk (blk_below (blk_below HBK.out (by repeat (first | (with_reducible first | exact Below.refl _ _ | apply below_alloc | apply pw_below_drewN | apply below_drew1) | exact Below.refl _ _))) hb); clear HBK; have HBK := n_; clear n_; have n_ := Aside0.mk (below_step (by repeat (first | (with_reducible first | exact HBX.out | apply below_alloc | apply pw_below_drewN | apply below_drew1) | exact HBX.out)) hb); clear HBX; have HBX := n_; clear n_ hb
      go_wp2_with fail
      refine (impl_within.calls cash 0 1000000000 false _ HW.out).mono ?_
      rintro e w2 ⟨rfl, ⟨q1, rfl⟩⟩
      go_wp2
      go_ret2
      rw [HFN.out]
      exact ⟨rfl, (by repeat (first | (with_reducible first | exact HBX.out | apply below_alloc | apply pw_below_drewN | apply below_drew1) | exact HBX.out))⟩
  · have g' : goodT xs = false := by simpa using g
    rw [g'] at hv
    have HV := Aside0.mk hv
    have HFN := Aside0.mk (show turA xs cash n d = (0, false) from by unfold turA; rw [if_neg (fun q => g q.1)])
    clear hv hf hw g g'
    go_enter Try.func29, Try.ntmps29
    go_wp2_with fail
    refine (impl_IsValidTranches.calls kv _ _ xs false _ (by repeat (first | exact (Kd.C_below HR0.out HBX.out) | (with_reducible refine Kd.C_alloc ?_ _) | (with_reducible refine Kd.C_drewN ?_ _) | (with_reducible refine Kd.C_drew ?_))) HC0.out HV.out).mono ?_
    rintro e w1 ⟨rfl, hb⟩
    have n_ := Aside0.mk (blk_below (blk_below HBK.out (by repeat (first | (with_reducible first | exact Below.refl _ _ | apply below_alloc | apply pw_below_drewN | apply below_drew1) | exact Below.refl _ _))) hb); clear HBK; have HBK := n_; clear n_; have n_ := Aside0.mk (below_step (by repeat (first | (with_reducible first | exact HBX.out | apply below_alloc | apply pw_below_drewN | apply below_drew1) | exact HBX.out)) hb); clear HBX; have HBX := n_; clear n_ hb
    go_wp2
    go_ret2
    rw [HFN.out]
    exact ⟨rfl, (by repeat (first | (with_reducible first | exact HBX.out | apply below_alloc | apply pw_below_drewN | apply below_drew1) | exact HBX.out))⟩
theorem spec_c (A0 : Option Addr) (c0 : Nat) (xs : List S49) (cash n d : Int) (w : World) (hr0 : Kd.C k49 w A0 xs.length xs) (hc0 : xs.length ≤ c0) (ha0 : 0 < xs.length → ∃ b, A0 = some ⟨b, 0, none⟩) (hn : xs.length ≤ 1048576) :
    Calls Try.prog 27 #[.slice A0 xs.length c0, .int .i64 cash, .agg #[.int .i64 n, .int .i64 d]] w fun e w' => e = .returned (.tuple #[.int .i64 (turA xs cash n d).1, .bool (turA xs cash n d).2]) ∧ Below w.heap.size w w' := by
  obtain ⟨k, h⟩ := roundsOf (specTur_ev xs cash n d hn)
  exact spec_TurboRank.calls k A0 c0 xs cash n d _ _ w hr0 hc0 h
set_option maxHeartbeats 16000000 in
set_option maxRecDepth 100000 in
theorem law_c (A0 : Option Addr) (c0 : Nat) (l0 : List S75) (a1 : Int) (a2_0 a2_1 : Int) (w : World) (hr0 : Kd.C k75 w A0 l0.length l0) (hc0 : l0.length ≤ c0) (hi1 : -9223372036854775808 ≤ a1 ∧ a1 ≤ 9223372036854775807) (hi2 : KReads.InI a2_0 ∧ KReads.InI a2_1) (he0 : ∀ y ∈ l0, (KReads.InI y.f0 ∧ KReads.InI y.f1)) :
    Calls Try.prog 7 #[.slice A0 l0.length c0, .int .i64 a1, .agg #[.int .i64 a2_0, .int .i64 a2_1]] w fun e w' => e = .returned (.bool true) ∧ Below w.heap.size w w' := by
  have HR0 := Aside0.mk hr0
  have HC0 := Aside0.mk hc0
  have HM0 := Aside0.mk (Kd.C_max hr0)
  clear hr0 hc0
  by_cases hn0 : l0.length ≤ 1048576
  rotate_left
  · have hn_ := hn0
    have E0 := Aside0.mk ((szTrancheS_eq l0 HM0.out).trans (congrArg some (if_neg hn0)))
    clear hn_
    go_enter Try.func7, Try.ntmps7
    go_wp2_with (go_at_call 19; refine (laws_szTrancheS.calls _ _ l0 1048576 _ _ (by repeat (first | exact HR0.out | (with_reducible refine Kd.C_alloc ?_ _) | (with_reducible refine Kd.C_drewN ?_ _) | (with_reducible refine Kd.C_drew ?_))) HC0.out E0.out).mono ?_; rintro e w0_ ⟨rfl, ⟨q, rfl⟩⟩)
    go_ret
    exact ⟨rfl, (by repeat (first | (with_reducible first | exact Below.refl _ _ | apply below_alloc | apply pw_below_drewN | apply below_drew1) | exact Below.refl _ _))⟩
  have E0 := Aside0.mk ((szTrancheS_eq l0 HM0.out).trans (congrArg some (if_pos hn0)))
  have cs0 : decide (1048576 - (l0.length : Int) < 0) = false := decide_eq_false (by omega)
  obtain ⟨L0, eL0⟩ : ∃ L_ : List S49, L_ = l0.map cv_Tranche := ⟨_, rfl⟩
  have hv0 : L0.length ≤ 1048576 := by rw [eL0]; simpa using hn0
  have EL0 := Aside0.mk eL0
  clear eL0
  have HB0 := Aside0.mk (Below.refl w.heap.size w)
  have HK2 := Aside0.mk (blk_new w (.cells #[.int .i64 a2_0, .int .i64 a2_1] 40 (0, 0)))
  obtain ⟨kX0, hX0⟩ := roundsOf (toTrancheS_ev l0 hn0)
  rw [← EL0.out] at hX0
  have X0 := Aside0.mk hX0
  clear hX0
  obtain ⟨kX1, hX1⟩ := roundsOf (eqTrancheS_ev L0 (by have h_ := hv0; omega))
  have X1 := Aside0.mk hX1
  clear hX1
  go_enter Try.func7, Try.ntmps7
  go_wp2_with (go_at_call 19; refine (laws_szTrancheS.calls _ _ l0 1048576 _ _ (by repeat (first | exact HR0.out | (with_reducible refine Kd.C_alloc ?_ _) | (with_reducible refine Kd.C_drewN ?_ _) | (with_reducible refine Kd.C_drew ?_))) HC0.out E0.out).mono ?_; rintro e w0_ ⟨rfl, ⟨q, rfl⟩⟩)
  go_region_held3 (fun W_ => W_.cell? ⟨w.heap.size, 0, none⟩ = some (.int .i64 a2_0) ∧ W_.cell? ⟨w.heap.size, 1, none⟩ = some (.int .i64 a2_1)) (first | exact ⟨(blk_cell HK2.out 0).trans rfl, (blk_cell HK2.out 1).trans rfl⟩ | go_keep) (first
    | (go_at_call 21; refine (laws_toTrancheS.calls kX0 _ _ l0 _ _ (by repeat (first | exact (Kd.C_below HR0.out HB0.out) | (with_reducible refine Kd.C_alloc ?_ _) | (with_reducible refine Kd.C_drewN ?_ _) | (with_reducible refine Kd.C_drew ?_))) HC0.out X0.out).mono ?_; rintro e w1 ⟨v, rfl, ho, hb⟩; have n_ := Aside0.mk (blk_below (blk_below HK2.out (by repeat (first | (with_reducible first | exact Below.refl _ _ | apply below_alloc | apply pw_below_drewN | apply below_drew1) | exact Below.refl _ _))) hb); clear HK2; have HK2 := n_; clear n_; have SZB := Aside0.mk (show w.heap.size < w1.heap.size from blk_lt HK2.out); have HB1 := Aside0.mk (below_step (by repeat (first | (with_reducible first | exact HB0.out | apply below_alloc | apply pw_below_drewN | apply below_drew1) | exact HB0.out)) hb); have SZ1 := Aside0.mk (show w.heap.size ≤ w1.heap.size from below_size (below_step (by repeat (first | (with_reducible first | exact Below.refl _ _ | apply below_alloc | apply pw_below_drewN | apply below_drew1) | exact Below.refl _ _)) hb)); have HOt1 := Aside0.mk (R_ivw (a := w.heap.size) (b := w.heap.size) ho (below_size (by repeat (first | (with_reducible first | exact Below.refl _ _ | apply below_alloc | apply pw_below_drewN | apply below_drew1) | exact Below.refl _ _))) (below_size (by repeat (first | (with_reducible first | exact HB0.out | apply below_alloc | apply pw_below_drewN | apply below_drew1) | exact HB0.out)))); obtain ⟨Art1, crt1, ert1⟩ := Kd.R_slice HOt1.out; subst ert1; clear ho hb)
    | (go_at_call 28; refine (laws_toFraction.calls a2_0 a2_1 a2_0 a2_1 _ rfl).mono ?_; rintro e w2 ⟨rfl, hb⟩; have n_ := Aside0.mk (blk_below (blk_below HK2.out (by repeat (first | (with_reducible first | exact Below.refl _ _ | apply below_alloc | apply pw_below_drewN | apply below_drew1) | exact Below.refl _ _))) hb); clear HK2; have HK2 := n_; clear n_; have n_ := Aside0.mk (Kd.R_below (by (with_reducible repeat (first | apply Kd.R_alloc | apply Kd.R_drewN | apply Kd.R_drew)); exact HOt1.out) hb); clear HOt1; have HOt1 := n_; clear n_; have HB2 := Aside0.mk (below_step (by repeat (first | (with_reducible first | exact HB1.out | apply below_alloc | apply pw_below_drewN | apply below_drew1) | exact HB1.out)) hb); have SZ2 := Aside0.mk (show w1.heap.size ≤ w2.heap.size from below_size (below_step (by repeat (first | (with_reducible first | exact Below.refl _ _ | apply below_alloc | apply pw_below_drewN | apply below_drew1) | exact Below.refl _ _)) hb)); clear hb)
    | (go_at_call 27; refine (spec_c _ _ L0 a1 a2_0 a2_1 _ (by repeat (first | exact (Kd.R_reads' HOt1.out).2.2 | (with_reducible refine Kd.C_alloc ?_ _) | (with_reducible refine Kd.C_drewN ?_ _) | (with_reducible refine Kd.C_drew ?_))) (Kd.R_reads' HOt1.out).2.1 (fun hp => R_head HOt1.out hp) hv0 ).mono ?_; rintro e w3 ⟨rfl, hb⟩; have n_ := Aside0.mk (blk_below (blk_below HK2.out (by repeat (first | (with_reducible first | exact Below.refl _ _ | apply below_alloc | apply pw_below_drewN | apply below_drew1) | exact Below.refl _ _))) hb); clear HK2; have HK2 := n_; clear n_; have n_ := Aside0.mk (Kd.R_below (by (with_reducible repeat (first | apply Kd.R_alloc | apply Kd.R_drewN | apply Kd.R_drew)); exact HOt1.out) hb); clear HOt1; have HOt1 := n_; clear n_; have HB3 := Aside0.mk (below_step (by repeat (first | (with_reducible first | exact HB2.out | apply below_alloc | apply pw_below_drewN | apply below_drew1) | exact HB2.out)) hb); have SZ3 := Aside0.mk (show w2.heap.size ≤ w3.heap.size from below_size (below_step (by repeat (first | (with_reducible first | exact Below.refl _ _ | apply below_alloc | apply pw_below_drewN | apply below_drew1) | exact Below.refl _ _)) hb)); clear hb))
  have yk2_0 : w3.cell? ⟨w.heap.size, 0, none⟩ = some (.int .i64 a2_0) := (blk_cell HK2.out 0).trans rfl
  have yk2_1 : w3.cell? ⟨w.heap.size, 1, none⟩ = some (.int .i64 a2_1) := (blk_cell HK2.out 1).trans rfl
  go_wp2_with fail
  clear yk2_0 yk2_1
  refine (laws_toTrancheS.calls kX0 _ _ l0 _ _ (by repeat (first | exact (Kd.C_below HR0.out HB3.out) | (with_reducible refine Kd.C_alloc ?_ _) | (with_reducible refine Kd.C_drewN ?_ _) | (with_reducible refine Kd.C_drew ?_))) HC0.out X0.out).mono ?_
  rintro e w4 ⟨v, rfl, ho, hb⟩
  have n_ := Aside0.mk (blk_below (blk_below HK2.out (by repeat (first | (with_reducible first | exact Below.refl _ _ | apply below_alloc | apply pw_below_drewN | apply below_drew1) | exact Below.refl _ _))) hb); clear HK2; have HK2 := n_; clear n_
  have HB4 := Aside0.mk (below_step (by repeat (first | (with_reducible first | exact HB3.out | apply below_alloc | apply pw_below_drewN | apply below_drew1) | exact HB3.out)) hb)
  have SZ4 := Aside0.mk (show w3.heap.size ≤ w4.heap.size from below_size (below_step (by repeat (first | (with_reducible first | exact Below.refl _ _ | apply below_alloc | apply pw_below_drewN | apply below_drew1) | exact Below.refl _ _)) hb))
  have HOx0 := Aside0.mk (R_ivw (a := w3.heap.size) (b := w.heap.size) ho (below_size (by repeat (first | (with_reducible first | exact Below.refl _ _ | apply below_alloc | apply pw_below_drewN | apply below_drew1) | exact Below.refl _ _))) (below_size (by repeat (first | (with_reducible first | exact HB3.out | apply below_alloc | apply pw_below_drewN | apply below_drew1) | exact HB3.out))))
  obtain ⟨Arx0, crx0, erx0⟩ := Kd.R_slice HOx0.out
  subst erx0
  clear ho hb
  have yk2_0 : w4.cell? ⟨w.heap.size, 0, none⟩ = some (.int .i64 a2_0) := (blk_cell HK2.out 0).trans rfl
  have yk2_1 : w4.cell? ⟨w.heap.size, 1, none⟩ = some (.int .i64 a2_1) := (blk_cell HK2.out 1).trans rfl
  go_wp2_with fail
  clear yk2_0 yk2_1
  refine (laws_toFraction.calls a2_0 a2_1 a2_0 a2_1 _ rfl).mono ?_
  rintro e w5 ⟨rfl, hb⟩
  have n_ := Aside0.mk (blk_below (blk_below HK2.out (by repeat (first | (with_reducible first | exact Below.refl _ _ | apply below_alloc | apply pw_below_drewN | apply below_drew1) | exact Below.refl _ _))) hb); clear HK2; have HK2 := n_; clear n_
  have n_ := Aside0.mk (Kd.R_below (by (with_reducible repeat (first | apply Kd.R_alloc | apply Kd.R_drewN | apply Kd.R_drew)); exact HOx0.out) hb); clear HOx0; have HOx0 := n_; clear n_
  have HB5 := Aside0.mk (below_step (by repeat (first | (with_reducible first | exact HB4.out | apply below_alloc | apply pw_below_drewN | apply below_drew1) | exact HB4.out)) hb)
  have SZ5 := Aside0.mk (show w4.heap.size ≤ w5.heap.size from below_size (below_step (by repeat (first | (with_reducible first | exact Below.refl _ _ | apply below_alloc | apply pw_below_drewN | apply below_drew1) | exact Below.refl _ _)) hb))
  clear hb
  have yk2_0 : w5.cell? ⟨w.heap.size, 0, none⟩ = some (.int .i64 a2_0) := (blk_cell HK2.out 0).trans rfl
  have yk2_1 : w5.cell? ⟨w.heap.size, 1, none⟩ = some (.int .i64 a2_1) := (blk_cell HK2.out 1).trans rfl
  go_wp2_with fail
  clear yk2_0 yk2_1
  refine (impl_c _ _ L0 a1 a2_0 a2_1 _ (by repeat (first | exact (Kd.R_reads' HOx0.out).2.2 | (with_reducible refine Kd.C_alloc ?_ _) | (with_reducible refine Kd.C_drewN ?_ _) | (with_reducible refine Kd.C_drew ?_))) (Kd.R_reads' HOx0.out).2.1 (fun hp => R_head HOx0.out hp) hv0 ).mono ?_
  rintro e w6 ⟨rfl, hb⟩
  have n_ := Aside0.mk (blk_below (blk_below HK2.out (by repeat (first | (with_reducible first | exact Below.refl _ _ | apply below_alloc | apply pw_below_drewN | apply below_drew1) | exact Below.refl _ _))) hb); clear HK2; have HK2 := n_; clear n_
  have n_ := Aside0.mk (Kd.R_below (by (with_reducible repeat (first | apply Kd.R_alloc | apply Kd.R_drewN | apply Kd.R_drew)); exact HOx0.out) hb); clear HOx0; have HOx0 := n_; clear n_
  have HB6 := Aside0.mk (below_step (by repeat (first | (with_reducible first | exact HB5.out | apply below_alloc | apply pw_below_drewN | apply below_drew1) | exact HB5.out)) hb)
  have SZ6 := Aside0.mk (show w5.heap.size ≤ w6.heap.size from below_size (below_step (by repeat (first | (with_reducible first | exact Below.refl _ _ | apply below_alloc | apply pw_below_drewN | apply below_drew1) | exact Below.refl _ _)) hb))
  clear hb
  have yk2_0 : w6.cell? ⟨w.heap.size, 0, none⟩ = some (.int .i64 a2_0) := (blk_cell HK2.out 0).trans rfl
  have yk2_1 : w6.cell? ⟨w.heap.size, 1, none⟩ = some (.int .i64 a2_1) := (blk_cell HK2.out 1).trans rfl
  go_wp2_with fail
  clear yk2_0 yk2_1
  refine (laws_toTrancheS.calls kX0 _ _ l0 _ _ (by repeat (first | exact (Kd.C_below HR0.out HB6.out) | (with_reducible refine Kd.C_alloc ?_ _) | (with_reducible refine Kd.C_drewN ?_ _) | (with_reducible refine Kd.C_drew ?_))) HC0.out X0.out).mono ?_
  rintro e w7 ⟨v, rfl, ho, hb⟩
  have n_ := Aside0.mk (blk_below (blk_below HK2.out (by repeat (first | (with_reducible first | exact Below.refl _ _ | apply below_alloc | apply pw_below_drewN | apply below_drew1) | exact Below.refl _ _))) hb); clear HK2; have HK2 := n_; clear n_
  have n_ := Aside0.mk (Kd.R_below (by (with_reducible repeat (first | apply Kd.R_alloc | apply Kd.R_drewN | apply Kd.R_drew)); exact HOx0.out) hb); clear HOx0; have HOx0 := n_; clear n_
  have HB7 := Aside0.mk (below_step (by repeat (first | (with_reducible first | exact HB6.out | apply below_alloc | apply pw_below_drewN | apply below_drew1) | exact HB6.out)) hb)
  have SZ7 := Aside0.mk (show w6.heap.size ≤ w7.heap.size from below_size (below_step (by repeat (first | (with_reducible first | exact Below.refl _ _ | apply below_alloc | apply pw_below_drewN | apply below_drew1) | exact Below.refl _ _)) hb))
  have HOt2 := Aside0.mk (R_ivw (a := w6.heap.size) (b := w.heap.size) ho (below_size (by repeat (first | (with_reducible first | exact Below.refl _ _ | apply below_alloc | apply pw_below_drewN | apply below_drew1) | exact Below.refl _ _))) (below_size (by repeat (first | (with_reducible first | exact HB6.out | apply below_alloc | apply pw_below_drewN | apply below_drew1) | exact HB6.out))))
  obtain ⟨Art2, crt2, ert2⟩ := Kd.R_slice HOt2.out
  subst ert2
  clear ho hb
  have yk2_0 : w7.cell? ⟨w.heap.size, 0, none⟩ = some (.int .i64 a2_0) := (blk_cell HK2.out 0).trans rfl
  have yk2_1 : w7.cell? ⟨w.heap.size, 1, none⟩ = some (.int .i64 a2_1) := (blk_cell HK2.out 1).trans rfl
  go_wp2_with fail
  clear yk2_0 yk2_1
  refine (laws_eqTrancheS.calls kX1 _ _ L0 _ _ L0 true _ (by repeat (first | exact (Kd.R_reads' HOx0.out).2.2 | (with_reducible refine Kd.C_alloc ?_ _) | (with_reducible refine Kd.C_drewN ?_ _) | (with_reducible refine Kd.C_drew ?_))) (Kd.R_reads' HOx0.out).2.1 (by repeat (first | exact (Kd.R_reads' HOt2.out).2.2 | (with_reducible refine Kd.C_alloc ?_ _) | (with_reducible refine Kd.C_drewN ?_ _) | (with_reducible refine Kd.C_drew ?_))) (Kd.R_reads' HOt2.out).2.1 X1.out).mono ?_
  rintro e w8 ⟨rfl, hb⟩
  have n_ := Aside0.mk (blk_below (blk_below HK2.out (by repeat (first | (with_reducible first | exact Below.refl _ _ | apply below_alloc | apply pw_below_drewN | apply below_drew1) | exact Below.refl _ _))) hb); clear HK2; have HK2 := n_; clear n_
  have n_ := Aside0.mk (Kd.R_below (by (with_reducible repeat (first | apply Kd.R_alloc | apply Kd.R_drewN | apply Kd.R_drew)); exact HOx0.out) hb); clear HOx0; have HOx0 := n_; clear n_
  have n_ := Aside0.mk (Kd.R_below (by (with_reducible repeat (first | apply Kd.R_alloc | apply Kd.R_drewN | apply Kd.R_drew)); exact HOt2.out) hb); clear HOt2; have HOt2 := n_; clear n_
  have HB8 := Aside0.mk (below_step (by repeat (first | (with_reducible first | exact HB7.out | apply below_alloc | apply pw_below_drewN | apply below_drew1) | exact HB7.out)) hb)
  have SZ8 := Aside0.mk (show w7.heap.size ≤ w8.heap.size from below_size (below_step (by repeat (first | (with_reducible first | exact Below.refl _ _ | apply below_alloc | apply pw_below_drewN | apply below_drew1) | exact Below.refl _ _)) hb))
  clear hb
  go_wp2
  go_ret
  exact ⟨rfl, (by repeat (first | (with_reducible first | exact HB8.out | apply below_alloc | apply pw_below_drewN | apply below_drew1) | exact HB8.out))⟩
end Go.Proofs.Ytbnhpkkkijjkkaa.O
