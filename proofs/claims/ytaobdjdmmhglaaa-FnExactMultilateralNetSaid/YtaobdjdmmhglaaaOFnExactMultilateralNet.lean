/- Walks of our own for the law FnExactMultilateralNet: each function's contract in plain Lean. No condition beyond the bounds that each contract names. -/
import Derived.Test.YtaobdjdmmhglaaaPureFnExactMultilateralNet
import Derived.Shelf.Slices.Turned
import Derived.Shelf.Lays
namespace Go.Proofs.Ytaobdjdmmhglaaa.O
open Go.RowKit Go.Proofs.YtaobdjdmmhglaaaW.PrintWords Go.Proofs.YtaobdjdmmhglaaaW.PrintLast Go.Proofs.YtaobdjdmmhglaaaW.PrintMore Go.Proofs.Ytaobdjdmmhglaaa.PFnExactCancelCycles Go.Proofs.Ytaobdjdmmhglaaa.EvKit Go.Proofs.Ytaobdjdmmhglaaa.Pure
set_option linter.unusedVariables false
set_option linter.unusedSimpArgs false
attribute [local go_sem] max2_int min2_int max_two min_two max_three min_three max_four min_four
/-- A number of rounds at which a printed function answers. -/
theorem roundsOf {α : Type} {g : Nat → Option α} {r : α} (h : Ev g r) : ∃ k, g k = some r := Ev.rounds h
theorem cellsOf {w : World} {b o : Nat} {xs : List Int} (h : (Kd.int .i64).C w (some ⟨b, o, none⟩) xs.length xs) : ∀ j, j < xs.length → w.cell? ⟨b, o + j, none⟩ = some (.int .i64 xs[j]!) := by
  intro j hj
  obtain ⟨ad, e, hc⟩ := Kd.at_int h (j : Int) (by omega) (by omega)
  injection e with e
  subst e
  rw [add_at] at hc
  rw [Int.toNat_natCast] at hc
  rw [hc, rd, Int.toNat_natCast, List.getD_eq_getElem?_getD, List.getElem?_eq_getElem hj, List.getElem!_eq_getElem?_getD, List.getElem?_eq_getElem hj]
  rfl
/-- Between two numbers. -/
def Iv (a b : Nat) (k : Nat) : Prop := a ≤ k ∧ k < b
theorem R_iv {α : Type} {d : Kd α} {e base : Nat} {ok : Nat → Prop} {w : World} {v : Value} {xs : List α} (h : d.R e w base ok v xs) : d.R e w base (Iv base w.heap.size) v xs := Kd.R_mono (Kd.R_bound h) (fun _ hk => ⟨hk.2.1, hk.2.2.1⟩)
/-- Where a row of one's own that is not empty begins. -/
theorem R_head {α : Type} {d : Kd α} {e base : Nat} {ok : Nat → Prop} {w : World} {A : Option Addr} {n c : Nat} {xs : List α} (h : d.R e w base ok (.slice A n c) xs) (hp : 0 < xs.length) : ∃ b, A = some ⟨b, 0, none⟩ := by
  obtain ⟨g, cap, e1, _⟩ := Kd.R_form h hp
  injection e1 with e1
  exact ⟨g, e1⟩
theorem R_ivw {α : Type} {d : Kd α} {e base a b : Nat} {ok : Nat → Prop} {w : World} {v : Value} {xs : List α} (h : d.R e w base ok v xs) (ha : a ≤ base) (hb : b ≤ base) : d.R e w b (Iv a w.heap.size) v xs := Kd.R_lower (Kd.R_mono (Kd.R_bound h) (fun _ hk => ⟨Nat.le_trans ha hk.2.1, hk.2.2.1⟩)) hb
/-- A row whose elements hold no rows lies in its own block alone. -/
theorem R_flat {α : Type} {d : Kd α} {e base : Nat} {ok ok' : Nat → Prop} {w : World} {v : Value} {xs : List α} (hf : ∀ (w : World) (b : Nat) (p q : Nat → Prop) x cs, d.M w b p x cs → d.M w b q x cs) (h : d.R e w base ok v xs) (h0 : ∀ k, v.ownBlock = some k → ok' k) : d.R e w base ok' v xs := ⟨h0, h.2.imp_ (fun _ _ hp => hf _ _ _ _ _ _ hp)⟩
theorem flat_int (w : World) (b : Nat) (p q : Nat → Prop) (x : Int) (cs : List Value) (h : (Kd.int .i64).M w b p x cs) : (Kd.int .i64).M w b q x cs := h
theorem cellsOfD {w : World} {b o m : Nat} {xs : List Int} (h : (Kd.int .i64).C w (some ⟨b, o, none⟩) m xs) : ∀ j, j < xs.length → w.cell? ⟨b, o + j, none⟩ = some (.int .i64 (xs.getD j 0)) := by
  intro j hj
  have hl := Kd.C_len h
  obtain ⟨ad, e, hc⟩ := Kd.at_int h (j : Int) (by omega) (by omega)
  injection e with e
  subst e
  rw [add_at, Int.toNat_natCast] at hc
  exact hc
theorem R_C {α : Type} {d : Kd α} {e base : Nat} {ok : Nat → Prop} {w : World} {A : Option Addr} {n c : Nat} {xs : List α} (h : d.R e w base ok (.slice A n c) xs) : d.C w A n xs := by
  obtain ⟨rfl, _, hc⟩ := Kd.R_reads' h
  exact hc
theorem R_cap {α : Type} {d : Kd α} {e base : Nat} {ok : Nat → Prop} {w : World} {A : Option Addr} {n c : Nat} {xs : List α} (h : d.R e w base ok (.slice A n c) xs) : n ≤ c := (Kd.R_reads' h).2.1
theorem R_same {α : Type} {d : Kd α} {e base : Nat} {ok : Nat → Prop} {w w1 : World} {v : Value} {xs : List α} (h : d.R e w base ok v xs) (hg : w.grownBy w1 none) : d.R e w1 base ok v xs := Kd.R_grown h hg (fun _ _ e => by cases e)
theorem R_block {α : Type} {d : Kd α} {e base g n c : Nat} {ok : Nat → Prop} {w : World} {xs : List α} (h : d.R e w base ok (.slice (some ⟨g, 0, none⟩) n c) xs) (hp : 0 < n) : ∃ cells, w.heap[g]? = some (.cells cells e (0, 0)) := by
  obtain ⟨e1, _, _⟩ := Kd.R_reads' h
  obtain ⟨g', cap, e2, _, _, cells, h3⟩ := Kd.R_form h (by omega)
  injection e2 with e2 _ _
  injection e2 with e2
  injection e2 with e2
  subst e2
  exact ⟨cells, h3⟩
theorem infoI : (Try.prog.info? 3).map (fun i => (i.zero, i.size, i.bytes)) = some (some (.int .i64 0), 1, 8) := by kernel_rfl
theorem infoC : (Try.prog.info? 54).map (fun i => (i.zero, i.size, i.bytes)) = some (some (.agg #[(.int .i64 0), (.int .i64 0), (.int .i64 0)]), 3, 24) := by kernel_rfl
set_option maxHeartbeats 4000000 in
set_option maxRecDepth 100000 in
theorem implPos_c (A0 : Option Addr) (c0 : Nat) (xs : List S54) (m : Nat) (w : World) (hr0 : Kd.C k54 w A0 xs.length xs) (hc0 : xs.length ≤ c0) (hm : 2 ≤ m ∧ m ≤ 8) (hn : xs.length ≤ 20) (hok : ∀ a ∈ xs, okC m a) :
    Calls Try.prog 51 #[.slice A0 xs.length c0, .int .i64 m] w fun e w' => ∃ v, e = .returned v ∧ (Kd.int .i64).R 3 w' w.heap.size (fun _ => True) v (posFold (List.replicate m 0) xs) ∧ Below w.heap.size w w' := by
  have HR0 := Aside0.mk hr0
  have HC0 := Aside0.mk hc0
  have HOK := Aside0.mk hok
  have HM := Aside0.mk hm
  have m1 := hm.1
  have m2 := hm.2
  clear hr0 hc0 hok hm
  go_enter Try.func51, Try.ntmps51
  go_wp2_with ((with_reducible refine gate_dst (N := 9) rfl ?_); refine Kd.R_make (Kd.int .i64) w.heap.size 3 rfl (N := 9) rfl 31 _ _ rfl (m : Int) rfl rfl Try.underlying31 (.int .i64 0) 8 infoI rfl (by decide) (by omega) 0 (ok := fun _ => True) (okp := fun _ => True) rfl (fun _ hk => hk) trivial (by omega) (by omega) (by repeat (first | (with_reducible first | exact (Below.refl w.heap.size w) | apply below_alloc | apply pw_below_drewN | apply below_drew1) | exact (Below.refl w.heap.size w))) (below_size (by repeat (first | (with_reducible first | exact (Below.refl w.heap.size w) | apply below_alloc | apply pw_below_drewN | apply below_drew1) | exact (Below.refl w.heap.size w)))) ?_; intro v1 w1 ho hb _ _)
  rw [Int.toNat_natCast] at ho
  obtain ⟨g, cap, hv, hg1, hg2, cells, hg3⟩ := Kd.R_form ho (by rw [List.length_replicate]; omega)
  rw [List.length_replicate] at hv
  subst hv
  have HO := Aside0.mk ho
  have HB := Aside0.mk hb
  clear ho hb hg2 hg3 cells
  go_loopw [12] (fun v12 wr => ∃ (pre rest : List S54) (out : List Int), Aside0 (xs = pre ++ rest) ∧ v12 = .int .i64 pre.length ∧ Aside0 (out.length = m) ∧ Aside0 (posFold out rest = posFold (List.replicate m 0) xs) ∧ Aside0 ((Kd.int .i64).R 3 wr w.heap.size (fun _ => True) (.slice (some ⟨g, 0, none⟩) m cap) out) ∧ Aside0 (Below w.heap.size w wr)) (fun v12 _ => xs.length - (intOf v12).toNat)
  case atStart => exact ⟨[], xs, List.replicate m 0, ⟨rfl⟩, rfl, ⟨List.length_replicate⟩, ⟨rfl⟩, HO, HB⟩
  case round =>
    clear HO
    obtain ⟨pre, rest, out, HX, rfl, HL, HP, HO, HB⟩ := hrel
    cases rest with
    | nil =>
      have c : decide (pre.length < xs.length) = false := decide_eq_false (by have := len_nil HX.out; omega)
      go_wp2
      go_ret
      exact ⟨_, rfl, by rw [← HP.out]; exact HO.out, HB.out⟩
    | cons a t =>
      have hlt := len_cons HX.out
      have hpl : (pre.length : Int) < xs.length := by omega
      have ha := HOK.out a (by rw [HX.out]; simp)
      have p0 := ha.1.1
      have q0 : a.f0 < (m : Int) := by have := ha.1.2; omega
      have p1 := ha.2.1.1
      have q1 : a.f1 < (m : Int) := by have := ha.2.1.2; omega
      obtain ⟨ad, e0, hx0, hx1, hx2⟩ := at_T54 HR0.out (pre.length : Int) (by omega) hpl
      rw [rd_T54_at HX.out rfl] at hx0 hx1 hx2
      simp only [Int.toNat_natCast] at hx0 hx1 hx2
      cases e0
      replace hx0 := (HB.out.cell (World.block_lt_of_cell? w _ hx0)).trans hx0
      replace hx1 := (HB.out.cell (World.block_lt_of_cell? w _ hx1)).trans hx1
      replace hx2 := (HB.out.cell (World.block_lt_of_cell? w _ hx2)).trans hx2
      have c : decide (pre.length < xs.length) = true := decide_eq_true (by omega)
      clear hlt
      obtain ⟨hy, hf⟩ := Kd.R_celln 0 HO.out a.f0 p0 q0
      have hgl : g < wr.heap.size := World.block_lt_of_cell? wr _ hy
      have hy' : ∀ O, (wr.alloc O).cell? ⟨g, a.f0.toNat, none⟩ = some (.int .i64 (rd out a.f0)) := fun O => ((below_alloc (Below.refl wr.heap.size wr) O).cell (p := ⟨g, a.f0.toNat, none⟩) hgl).trans hy
      have hf' : ∀ O, (wr.alloc O).frozen? ⟨g, a.f0.toNat, none⟩ = false := fun O => ((below_alloc (Below.refl wr.heap.size wr) O).frozen (p := ⟨g, a.f0.toNat, none⟩) hgl).trans hf
      clear hy hf
      go_upto_region 5 with (fail)
      go_region
      clear hy' hf'
      have HO1 := Aside0.mk (Kd.R_putn HO.out a.f0 (wrap64 (rd out a.f0 - a.f2)))
      have HB1 := Aside0.mk (below_set (j := a.f0.toNat) (v := .int .i64 (wrap64 (rd out a.f0 - a.f2))) HB.out hg1)
      have hsz : (wr.setCell ⟨g, a.f0.toNat, none⟩ (.int .i64 (wrap64 (rd out a.f0 - a.f2)))).heap.size = wr.heap.size := by simp [World.setCell]
      generalize wr.setCell ⟨g, a.f0.toNat, none⟩ (.int .i64 (wrap64 (rd out a.f0 - a.f2))) = wr1 at HO1 HB1 hsz ⊢
      obtain ⟨hy, hf⟩ := Kd.R_celln 0 HO1.out a.f1 p1 q1
      have hgl1 : g < wr1.heap.size := World.block_lt_of_cell? wr1 _ hy
      have hy' : ∀ O, (wr1.alloc O).cell? ⟨g, a.f1.toNat, none⟩ = some (.int .i64 (rd (out.set a.f0.toNat (wrap64 (rd out a.f0 - a.f2))) a.f1)) := fun O => ((below_alloc (Below.refl wr1.heap.size wr1) O).cell (p := ⟨g, a.f1.toNat, none⟩) hgl1).trans hy
      have hf' : ∀ O, (wr1.alloc O).frozen? ⟨g, a.f1.toNat, none⟩ = false := fun O => ((below_alloc (Below.refl wr1.heap.size wr1) O).frozen (p := ⟨g, a.f1.toNat, none⟩) hgl1).trans hf
      clear hy hf hgl
      go_upto_region 6 with (fail)
      go_region
      clear hy' hf'
      go_wp2
      go_roundw
      case rel => exact ⟨pre ++ [a], t, posStep out a, ⟨snoc HX.out⟩, by rw [len_snoc], ⟨by rw [posStep_length]; exact HL.out⟩, ⟨HP.out⟩, ⟨Kd.R_putn (by (with_reducible repeat (first | apply Kd.R_alloc | apply Kd.R_drewN | apply Kd.R_drew)); exact HO1.out) a.f1 _⟩, ⟨by repeat (first | exact HB1.out | apply below_alloc | apply pw_below_drewN | apply below_drew1 | refine below_set ?_ hg1)⟩⟩
      case measure => simp [intOf]; omega
def Lmax_ren : Go.Shelf.Ren := ⟨fun | 113 => 59 | n => n, fun | 0 => 0 | 3 => 3 | 4 => 4 | 9 => 9 | 20 => 20 | 28 => 31 | n => n, fun | n => n⟩
theorem Lmax : Go.Proofs.Lays.n113 Try.prog Lmax_ren := {
  mixed := by kernel_rfl,
  f113 := Try.func59.trans (congrArg some (by kernel_rfl)),
  t0 := Try.underlying0,
  a0 := Try.isAgg0,
  z0 := Try.sizeOf0,
  v0 := Try.zeroValue0,
  t3 := Try.underlying3,
  a3 := Try.isAgg3,
  z3 := Try.sizeOf3,
  v3 := Try.zeroValue3,
  t4 := Try.underlying4,
  a4 := Try.isAgg4,
  z4 := Try.sizeOf4,
  v4 := Try.zeroValue4,
  t9 := Try.underlying9,
  a9 := Try.isAgg9,
  z9 := Try.sizeOf9,
  v9 := Try.zeroValue9,
  t20 := Try.underlying20,
  a20 := Try.isAgg20,
  z20 := Try.sizeOf20,
  v20 := Try.zeroValue20,
  t28 := Try.underlying31,
  a28 := Try.isAgg31,
  z28 := Try.sizeOf31,
  v28 := Try.zeroValue31 }

def Lmin_ren : Go.Shelf.Ren := ⟨fun | 114 => 58 | n => n, fun | 0 => 0 | 3 => 3 | 4 => 4 | 9 => 9 | 20 => 20 | 28 => 31 | n => n, fun | n => n⟩
theorem Lmin : Go.Proofs.Lays.n114 Try.prog Lmin_ren := {
  mixed := by kernel_rfl,
  f114 := Try.func58.trans (congrArg some (by kernel_rfl)),
  t0 := Try.underlying0,
  a0 := Try.isAgg0,
  z0 := Try.sizeOf0,
  v0 := Try.zeroValue0,
  t3 := Try.underlying3,
  a3 := Try.isAgg3,
  z3 := Try.sizeOf3,
  v3 := Try.zeroValue3,
  t4 := Try.underlying4,
  a4 := Try.isAgg4,
  z4 := Try.sizeOf4,
  v4 := Try.zeroValue4,
  t9 := Try.underlying9,
  a9 := Try.isAgg9,
  z9 := Try.sizeOf9,
  v9 := Try.zeroValue9,
  t20 := Try.underlying20,
  a20 := Try.isAgg20,
  z20 := Try.sizeOf20,
  v20 := Try.zeroValue20,
  t28 := Try.underlying31,
  a28 := Try.isAgg31,
  z28 := Try.sizeOf31,
  v28 := Try.zeroValue31 }

theorem max_c (g m cap : Nat) (xs : List Int) (w : World) (hr : (Kd.int .i64).C w (some ⟨g, 0, none⟩) m xs) (h0 : 0 < m) :
    Calls Try.prog 59 #[.slice (some ⟨g, 0, none⟩) m cap] w fun e w' => e = .returned (.int .i64 (Lib.maxOf xs)) ∧ w = w' := by
  have hl := Kd.C_len hr
  have h := Any.slices_Max_int Lmax g 0 m cap xs w h0 (by omega) (Kd.C_max hr) (cellsOfD hr)
  rw [List.take_of_length_le (by omega)] at h
  exact h.mono fun e w' ⟨he, hw⟩ => ⟨he, hw.symm⟩
theorem min_c (g m cap : Nat) (xs : List Int) (w : World) (hr : (Kd.int .i64).C w (some ⟨g, 0, none⟩) m xs) (h0 : 0 < m) :
    Calls Try.prog 58 #[.slice (some ⟨g, 0, none⟩) m cap] w fun e w' => e = .returned (.int .i64 (Lib.minOf xs)) ∧ w = w' := by
  have hl := Kd.C_len hr
  have h := Any.slices_Min_int Lmin g 0 m cap xs w h0 (by omega) (Kd.C_max hr) (cellsOfD hr)
  rw [List.take_of_length_le (by omega)] at h
  exact h.mono fun e w' ⟨he, hw⟩ => ⟨he, hw.symm⟩
theorem index_c (g m cap : Nat) (l : List Int) (i : Nat) (w : World) (hr : (Kd.int .i64).C w (some ⟨g, 0, none⟩) m l) (hl : l.length = m) (hc : m ≤ cap) (hm : m ≤ 1048576) (hi : i < l.length) (hne : ∀ j, j < i → l.getD j 0 ≠ l.getD i 0) :
    Calls Try.prog 57 #[.slice (some ⟨g, 0, none⟩) m cap, .int .i64 (l.getD i 0)] w fun e w' => e = .returned (.int .i64 i) ∧ Drawn0 w w' := by
  subst hl
  obtain ⟨k, hk⟩ := roundsOf (index_ev l (l.getD i 0) i hm hi rfl hne)
  exact slices_Index_int_int.calls k _ cap l _ _ w hr hc hk
set_option maxHeartbeats 8000000 in
set_option maxRecDepth 100000 in
theorem impl_c (A0 : Option Addr) (c0 : Nat) (xs : List S54) (p : Int) (w : World) (hr0 : Kd.C k54 w A0 xs.length xs) (hc0 : xs.length ≤ c0) (ha0 : 0 < xs.length → ∃ b, A0 = some ⟨b, 0, none⟩) (hn : xs.length ≤ 1048576) :
    Calls Try.prog 30 #[.slice A0 xs.length c0, .int .i64 p] w fun e w' => ∃ v, e = .returned (.tuple #[v, .bool (multA xs p).2]) ∧ Kd.R k54 54 w' w.heap.size (fun _ => True) v (multA xs p).1 ∧ Below w.heap.size w w' := by
  obtain ⟨kv, hv⟩ := roundsOf (implValidC_ev xs p hn)
  by_cases g : goodC xs p = true
  · rw [g] at hv
    have gg := of_decide_eq_true g
    obtain ⟨⟨p1, p2⟩, hx20, hok, hsum⟩ := gg
    obtain ⟨m, rfl⟩ := Int.eq_ofNat_of_zero_le (show 0 ≤ p from by omega)
    have hfin : multA xs m = (multF m (posFold (List.replicate m 0) xs) [], true) := by unfold multA; rw [if_pos g, Int.toNat_natCast]
    have hfacts := posFold_facts m xs hok hsum xs [] (List.replicate m 0) rfl List.length_replicate (lsum_replicate m) (fun x hx => by rw [List.eq_of_mem_replicate hx]; simp [sumC])
    have hlen : (posFold (List.replicate m 0) xs).length = m := by rw [posFold_length, List.length_replicate]
    rw [hfin]
    obtain ⟨FIN, hFIN⟩ : ∃ F, F = multF m (posFold (List.replicate m 0) xs) [] := ⟨_, rfl⟩
    rw [← hFIN]
    have HV := Aside0.mk hv
    have HR0 := Aside0.mk hr0
    have HC0 := Aside0.mk hc0
    have HOK := Aside0.mk hok
    have HF := Aside0.mk hFIN
    have HFA := Aside0.mk hfacts
    have HLN := Aside0.mk hlen
    have HM := Aside0.mk (show 2 ≤ m ∧ m ≤ 8 from by omega)
    have HX := Aside0.mk hx20
    clear hv hr0 hc0 hok hFIN hfacts hlen hx20 g hfin hsum ha0 p1 p2
    go_enter Try.func30, Try.ntmps30
    go_wp2_with (go_at_call 16; refine (impl_IsValidClaims.calls kv _ _ xs _ true _ HR0.out HC0.out HV.out).mono ?_; rintro e w1 ⟨rfl, hb⟩; have HB := Aside0.mk hb; clear hb)
    refine (implPos_c _ _ xs m _ (by repeat (first | exact (Kd.C_below HR0.out HB.out) | (with_reducible refine Kd.C_alloc ?_ _) | (with_reducible refine Kd.C_drewN ?_ _) | (with_reducible refine Kd.C_drew ?_))) HC0.out HM.out HX.out HOK.out).mono ?_
    rintro e w2 ⟨v6, rfl, ho, hb⟩
    have HB0 := HB
    have n_ := Aside0.mk (below_step (by repeat (first | (with_reducible first | exact HB.out | apply below_alloc | apply pw_below_drewN | apply below_drew1) | exact HB.out)) hb)
    clear HB
    have HB := n_
    clear n_
    obtain ⟨g, cap, hv6, hg1, hg2, cells, hg3⟩ := Kd.R_form ho (by rw [HLN.out]; have := HM.out; omega)
    rw [HLN.out] at hv6
    subst hv6
    have HO := Aside0.mk (Kd.R_lower ho (show w.heap.size ≤ _ from below_size HB0.out))
    replace hg1 : w.heap.size ≤ g := Nat.le_trans (below_size HB0.out) hg1
    clear HB0
    clear ho hb hg2 hg3 cells
    go_wp2_with ((with_reducible refine gate_dst (N := 18) rfl ?_); refine Kd.R_lit k54 w.heap.size 54 (w0 := w) ?hg (N := 18) ?hd (xs := []) (inner := []) (ok := fun _ => True) (okp := fun _ => True) ?hr ?hp (fun _ hk => hk) trivial (by repeat (first | (with_reducible first | exact HB.out | apply below_alloc | apply pw_below_drewN | apply below_drew1) | exact HB.out)) (below_size (by repeat (first | (with_reducible first | exact HB.out | apply below_alloc | apply pw_below_drewN | apply below_drew1) | exact HB.out))) (by simp) ?_; (case hd => rfl); (case hg => rfl); (case hr => first | (go_simp; done) | (go_simp; rfl)); (case hp => exact (Reps.none _ _)); intro v1 w1 ho hb hgr hnw)
    have HO' := Aside0.mk (R_same (by (with_reducible repeat (first | apply Kd.R_alloc | apply Kd.R_drewN | apply Kd.R_drew)); exact HO.out) hgr)
    clear HO
    have HO := HO'
    clear HO'
    have HOUT := Aside0.mk ho
    clear HB
    have HB := Aside0.mk hb
    clear ho hb hgr hnw
    go_loopg [7] m (fun kq v7 wr => ∃ (l : List Int) (out : List S54), Aside0 (nz l ≤ kq) ∧ Aside0 (out.length + kq ≤ m) ∧ Aside0 (l.length = m) ∧ Aside0 (lsum l = 0) ∧ Aside0 (∀ x ∈ l, -1000000000 ≤ x ∧ x ≤ 1000000000) ∧ Aside0 (multF kq l out = FIN) ∧ Aside0 ((Kd.int .i64).R 3 wr w.heap.size (fun _ => True) (.slice (some ⟨g, 0, none⟩) m cap) l) ∧ Aside0 (Kd.R k54 54 wr w.heap.size (fun _ => True) v7 out) ∧ Aside0 (Below w.heap.size w wr))
    case atStart => exact ⟨posFold (List.replicate m 0) xs, [], ⟨by have := nz_le (posFold (List.replicate m 0) xs); rw [HLN.out] at this; exact this⟩, ⟨by simp⟩, HLN, ⟨HFA.out.1⟩, ⟨HFA.out.2⟩, ⟨HF.out.symm⟩, HO, HOUT, HB⟩
    case round =>
      clear HO HOUT HB
      obtain ⟨l, out, HN, HLE, HL, HS, HBD, HFN, HO, HOUT, HB⟩ := hrel
      have hm2 := HM.out
      have hpos : 0 < l.length := by rw [HL.out]; omega
      obtain ⟨i, hi⟩ := isLo_ex hpos
      obtain ⟨j, hj⟩ := isHi_ex hpos
      have HI := Aside0.mk hi
      have HJ := Aside0.mk hj
      have hmin := minOf_lo hi
      have hmax := maxOf_hi hj
      have bi := HBD.out _ (getD_mem' hi.1)
      have bj := HBD.out _ (getD_mem' hj.1)
      have qi : (i : Int) < (m : Int) := by have := hi.1; rw [HL.out] at this; omega
      have qj : (j : Int) < (m : Int) := by have := hj.1; rw [HL.out] at this; omega
      have yi : wr.cell? ⟨g, i, none⟩ = some (.int .i64 (l.getD i 0)) := by
        have := (Kd.R_celln 0 HO.out (i : Int) (by omega) qi).1
        rw [Int.toNat_natCast] at this
        rw [this, rdOf, Int.toNat_natCast]
      have yj : wr.cell? ⟨g, j, none⟩ = some (.int .i64 (l.getD j 0)) := by
        have := (Kd.R_celln 0 HO.out (j : Int) (by omega) qj).1
        rw [Int.toNat_natCast] at this
        rw [this, rdOf, Int.toNat_natCast]
      have HMI := Aside0.mk hmin
      have HMA := Aside0.mk hmax
      have ham : amtOf l i j = if -(l.getD i 0) ≤ l.getD j 0 then -(l.getD i 0) else l.getD j 0 := rfl
      have IXI := Aside0.mk (fun W (hr : (Kd.int .i64).C W (some ⟨g, 0, none⟩) m l) => index_c g m cap l i W hr HL.out (R_cap HO.out) (by omega) hi.1 (fun q hq => by have := hi.2.2 q hq; omega))
      have IXJ := Aside0.mk (fun W (hr : (Kd.int .i64).C W (some ⟨g, 0, none⟩) m l) => index_c g m cap l j W hr HL.out (R_cap HO.out) (by omega) hj.1 (fun q hq => by have := hj.2.2 q hq; omega))
      obtain ⟨x, hx⟩ : ∃ x, x = l.getD i 0 := ⟨_, rfl⟩
      obtain ⟨y, hy⟩ : ∃ y, y = l.getD j 0 := ⟨_, rfl⟩
      rw [← hx] at bi yi HMI ham IXI
      rw [← hy] at bj yj HMA ham IXJ
      have HAM := Aside0.mk ham
      have HXE := Aside0.mk hx
      have HYE := Aside0.mk hy
      clear hx hy ham hmin hmax hi hj hpos
      go_wp2_with fail
      refine (min_c g m cap l _ (by repeat (first | exact (R_C HO.out) | (with_reducible refine Kd.C_alloc ?_ _) | (with_reducible refine Kd.C_drewN ?_ _) | (with_reducible refine Kd.C_drew ?_))) (by omega)).mono ?_
      rw [HMI.out]
      rintro e w3 ⟨rfl, rfl⟩
      go_wp2_with fail
      refine (IXI.out _ (by repeat (first | exact (R_C HO.out) | (with_reducible refine Kd.C_alloc ?_ _) | (with_reducible refine Kd.C_drewN ?_ _) | (with_reducible refine Kd.C_drew ?_)))).mono ?_
      rintro e w3 ⟨rfl, ⟨nd, rfl⟩⟩
      go_wp2_with fail
      refine (max_c g m cap l _ (by repeat (first | exact (R_C HO.out) | (with_reducible refine Kd.C_alloc ?_ _) | (with_reducible refine Kd.C_drewN ?_ _) | (with_reducible refine Kd.C_drew ?_))) (by omega)).mono ?_
      rw [HMA.out]
      rintro e w3 ⟨rfl, rfl⟩
      go_wp2_with fail
      refine (IXJ.out _ (by repeat (first | exact (R_C HO.out) | (with_reducible refine Kd.C_alloc ?_ _) | (with_reducible refine Kd.C_drewN ?_ _) | (with_reducible refine Kd.C_drew ?_)))).mono ?_
      rintro e w3 ⟨rfl, ⟨nd2, rfl⟩⟩
      go_upto_region 6 with (fail)
      by_cases c1 : y < -x
      · go_region
        have ham : amtOf l i j = y := by rw [HAM.out]; split <;> omega
        clear yi yj c1
        by_cases c2 : y = 0
        · have c2b : (y == 0) = true := by rw [beq_iff_eq]; exact c2
          have hend := multF_end (k := gk) (out := out) HI.out HJ.out (by rw [ham]; exact c2)
          rw [HFN.out] at hend
          have HE := Aside0.mk hend
          clear c2 ham hend
          go_wp2
          go_ret2
          rw [HE.out]
          exact ⟨_, rfl, (by (with_reducible repeat (first | apply Kd.R_alloc | apply Kd.R_drewN | apply Kd.R_drew)); exact HOUT.out), (by repeat (first | (with_reducible first | exact HB.out | apply below_alloc | apply pw_below_drewN | apply below_drew1) | exact HB.out))⟩
        · have c2b : (y == 0) = false := by rw [beq_eq_false_iff_ne]; exact c2
          have hst := mult_step HI.out HJ.out HS.out HBD.out (by rw [ham]; exact c2)
          rw [ham] at hst
          obtain ⟨s1, s2, s3, s4, s5, s6, s7⟩ := hst
          obtain ⟨k1, rfl⟩ : ∃ k1, gk = k1 + 1 := ⟨gk - 1, by have := HN.out; omega⟩
          have hgo := multF_go (k := k1) (out := out) HI.out HJ.out (by rw [ham]; exact c2)
          rw [ham, HFN.out] at hgo
          have HGO := Aside0.mk hgo
          have S4 := Aside0.mk s4
          have S5 := Aside0.mk s5
          have S6 := Aside0.mk s6
          have S7 := Aside0.mk s7
          have S3 := Aside0.mk s3
          have hlen : out.length ≤ 8 := by have := HLE.out; omega
          clear c2 ham hgo s3 s4 s5 s6 s7
          go_upto_region 10 with ((with_reducible refine gate_builtin (b := .append) (xs := #[.tmp 40, .tmp 45]) rfl ?_); at_builtin; refine Kd.R_append k54 (w0 := w) w.heap.size rfl (.tmp 40) (.tmp 45) 25 54 (.agg #[(.int .i64 0), (.int .i64 0), (.int .i64 0)]) 24 rfl Try.underlying25 infoC rfl (by decide) (by omega) u7 out (⟨i, j, y⟩ : S54) [.int .i64 i, .int .i64 j, .int .i64 y] (fun _ => True) (fun _ => False) rfl rfl ?aP (fun _ hk => hk.elim) ?aF ?aO ?aB ?aS ?aL ?_; (case aP => exact k54_mkM _ _ _ _); (case aB => exact (by repeat (first | (with_reducible first | exact HB.out | apply below_alloc | apply pw_below_drewN | apply below_drew1) | exact HB.out))); (case aF => exact (fun _ _ => trivial)); (case aO => exact (by (with_reducible repeat (first | apply Kd.R_alloc | apply Kd.R_drewN | apply Kd.R_drew)); exact HOUT.out)); (case aS => exact (below_size (by repeat (first | (with_reducible first | exact HB.out | apply below_alloc | apply pw_below_drewN | apply below_drew1) | exact HB.out)))); (case aL => omega); intro v1 w1 ho hb hg hat)
          have HO1 := Aside0.mk (Kd.R_over (by (with_reducible repeat (first | apply Kd.R_alloc | apply Kd.R_drewN | apply Kd.R_drew)); exact HO.out) (by (with_reducible repeat (first | apply Kd.R_alloc | apply Kd.R_drewN | apply Kd.R_drew)); exact HOUT.out) (by decide) hg)
          have HOUT1 := Aside0.mk ho
          have HB1 := Aside0.mk hb
          clear ho hb hg hat HO HOUT HB
          have yi : w1.cell? ⟨g, i, none⟩ = some (.int .i64 x) := by
            have := (Kd.R_celln 0 HO1.out (i : Int) (by omega) qi).1
            rw [Int.toNat_natCast] at this
            rw [this, rdOf, Int.toNat_natCast, HXE.out]
          have fi : w1.frozen? ⟨g, i, none⟩ = false := by
            have := (Kd.R_celln 0 HO1.out (i : Int) (by omega) qi).2
            rw [Int.toNat_natCast] at this
            exact this
          go_upto_region 11 with (fail)
          have hup : upAt l i j y = (l.set i (x + y)).set j (y - y) := by
            have e : (l.set i (x + y)).getD j 0 = y := by
              rw [HYE.out]
              simp only [List.getD_eq_getElem?_getD]
              rw [List.getElem?_set_ne S3.out]
            unfold upAt
            rw [← HXE.out, e]
          have HUP := Aside0.mk hup
          have hz : (l.set i (x + y)).getD j 0 = y := by
            rw [HYE.out]
            simp only [List.getD_eq_getElem?_getD]
            rw [List.getElem?_set_ne S3.out]
          have HO2 := Kd.R_putn HO1.out (i : Int) (x + y)
          rw [Int.toNat_natCast] at HO2
          obtain ⟨cells, hbk⟩ := R_block HO1.out (by omega)
          have HOUT2 := Kd.R_set HOUT1.out hbk (by decide) i (.int .i64 (x + y))
          have HB2 := below_set (j := i) (v := .int .i64 (x + y)) HB1.out hg1
          replace HO2 := Aside0.mk HO2
          replace HOUT2 := Aside0.mk HOUT2
          replace HB2 := Aside0.mk HB2
          clear hbk yi fi HO1 HOUT1 HB1 hup
          generalize w1.setCell ⟨g, i, none⟩ (.int .i64 (x + y)) = w2 at HO2 HOUT2 HB2 ⊢
          have yj : w2.cell? ⟨g, j, none⟩ = some (.int .i64 y) := by
            have := (Kd.R_celln 0 HO2.out (j : Int) (by omega) qj).1
            rw [Int.toNat_natCast] at this
            rw [this, rdOf, Int.toNat_natCast, hz]
          have fj : w2.frozen? ⟨g, j, none⟩ = false := by
            have := (Kd.R_celln 0 HO2.out (j : Int) (by omega) qj).2
            rw [Int.toNat_natCast] at this
            exact this
          clear hz
          go_wp2
          have HO3 := Kd.R_putn HO2.out (j : Int) (y - y)
          rw [Int.toNat_natCast, ← HUP.out, show y - y = 0 from by omega] at HO3
          obtain ⟨cells, hbk⟩ := R_block HO2.out (by omega)
          have HOUT3 := Kd.R_set HOUT2.out hbk (by decide) j (.int .i64 0)
          have HB3 := below_set (j := j) (v := .int .i64 0) HB2.out hg1
          go_roundg k1
          case rel => exact ⟨upAt l i j y, out ++ [⟨i, j, y⟩], ⟨by have := S5.out; have := HN.out; omega⟩, ⟨by rw [List.length_append, List.length_singleton]; have := HLE.out; omega⟩, ⟨S6.out.trans HL.out⟩, S4, S7, ⟨HGO.out.symm⟩, ⟨HO3⟩, ⟨HOUT3⟩, ⟨HB3⟩⟩
          case measure => omega
      · go_region
        have ham : amtOf l i j = (-x) := by rw [HAM.out]; split <;> omega
        clear yi yj c1
        by_cases c2 : (-x) = 0
        · have c2b : ((-x) == 0) = true := by rw [beq_iff_eq]; exact c2
          have hend := multF_end (k := gk) (out := out) HI.out HJ.out (by rw [ham]; exact c2)
          rw [HFN.out] at hend
          have HE := Aside0.mk hend
          clear c2 ham hend
          go_wp2
          go_ret2
          rw [HE.out]
          exact ⟨_, rfl, (by (with_reducible repeat (first | apply Kd.R_alloc | apply Kd.R_drewN | apply Kd.R_drew)); exact HOUT.out), (by repeat (first | (with_reducible first | exact HB.out | apply below_alloc | apply pw_below_drewN | apply below_drew1) | exact HB.out))⟩
        · have c2b : ((-x) == 0) = false := by rw [beq_eq_false_iff_ne]; exact c2
          have hst := mult_step HI.out HJ.out HS.out HBD.out (by rw [ham]; exact c2)
          rw [ham] at hst
          obtain ⟨s1, s2, s3, s4, s5, s6, s7⟩ := hst
          obtain ⟨k1, rfl⟩ : ∃ k1, gk = k1 + 1 := ⟨gk - 1, by have := HN.out; omega⟩
          have hgo := multF_go (k := k1) (out := out) HI.out HJ.out (by rw [ham]; exact c2)
          rw [ham, HFN.out] at hgo
          have HGO := Aside0.mk hgo
          have S4 := Aside0.mk s4
          have S5 := Aside0.mk s5
          have S6 := Aside0.mk s6
          have S7 := Aside0.mk s7
          have S3 := Aside0.mk s3
          have hlen : out.length ≤ 8 := by have := HLE.out; omega
          clear c2 ham hgo s3 s4 s5 s6 s7
          go_upto_region 10 with ((with_reducible refine gate_builtin (b := .append) (xs := #[.tmp 40, .tmp 45]) rfl ?_); at_builtin; refine Kd.R_append k54 (w0 := w) w.heap.size rfl (.tmp 40) (.tmp 45) 25 54 (.agg #[(.int .i64 0), (.int .i64 0), (.int .i64 0)]) 24 rfl Try.underlying25 infoC rfl (by decide) (by omega) u7 out (⟨i, j, (-x)⟩ : S54) [.int .i64 i, .int .i64 j, .int .i64 (-x)] (fun _ => True) (fun _ => False) rfl rfl ?aP (fun _ hk => hk.elim) ?aF ?aO ?aB ?aS ?aL ?_; (case aP => exact k54_mkM _ _ _ _); (case aB => exact (by repeat (first | (with_reducible first | exact HB.out | apply below_alloc | apply pw_below_drewN | apply below_drew1) | exact HB.out))); (case aF => exact (fun _ _ => trivial)); (case aO => exact (by (with_reducible repeat (first | apply Kd.R_alloc | apply Kd.R_drewN | apply Kd.R_drew)); exact HOUT.out)); (case aS => exact (below_size (by repeat (first | (with_reducible first | exact HB.out | apply below_alloc | apply pw_below_drewN | apply below_drew1) | exact HB.out)))); (case aL => omega); intro v1 w1 ho hb hg hat)
          have HO1 := Aside0.mk (Kd.R_over (by (with_reducible repeat (first | apply Kd.R_alloc | apply Kd.R_drewN | apply Kd.R_drew)); exact HO.out) (by (with_reducible repeat (first | apply Kd.R_alloc | apply Kd.R_drewN | apply Kd.R_drew)); exact HOUT.out) (by decide) hg)
          have HOUT1 := Aside0.mk ho
          have HB1 := Aside0.mk hb
          clear ho hb hg hat HO HOUT HB
          have yi : w1.cell? ⟨g, i, none⟩ = some (.int .i64 x) := by
            have := (Kd.R_celln 0 HO1.out (i : Int) (by omega) qi).1
            rw [Int.toNat_natCast] at this
            rw [this, rdOf, Int.toNat_natCast, HXE.out]
          have fi : w1.frozen? ⟨g, i, none⟩ = false := by
            have := (Kd.R_celln 0 HO1.out (i : Int) (by omega) qi).2
            rw [Int.toNat_natCast] at this
            exact this
          go_upto_region 11 with (fail)
          have hup : upAt l i j (-x) = (l.set i (x + (-x))).set j (y - (-x)) := by
            have e : (l.set i (x + (-x))).getD j 0 = y := by
              rw [HYE.out]
              simp only [List.getD_eq_getElem?_getD]
              rw [List.getElem?_set_ne S3.out]
            unfold upAt
            rw [← HXE.out, e]
          have HUP := Aside0.mk hup
          have hz : (l.set i (x + (-x))).getD j 0 = y := by
            rw [HYE.out]
            simp only [List.getD_eq_getElem?_getD]
            rw [List.getElem?_set_ne S3.out]
          have HO2 := Kd.R_putn HO1.out (i : Int) (x + (-x))
          rw [Int.toNat_natCast] at HO2
          obtain ⟨cells, hbk⟩ := R_block HO1.out (by omega)
          have HOUT2 := Kd.R_set HOUT1.out hbk (by decide) i (.int .i64 (x + (-x)))
          have HB2 := below_set (j := i) (v := .int .i64 (x + (-x))) HB1.out hg1
          replace HO2 := Aside0.mk HO2
          replace HOUT2 := Aside0.mk HOUT2
          replace HB2 := Aside0.mk HB2
          clear hbk yi fi HO1 HOUT1 HB1 hup
          generalize w1.setCell ⟨g, i, none⟩ (.int .i64 (x + (-x))) = w2 at HO2 HOUT2 HB2 ⊢
          have yj : w2.cell? ⟨g, j, none⟩ = some (.int .i64 y) := by
            have := (Kd.R_celln 0 HO2.out (j : Int) (by omega) qj).1
            rw [Int.toNat_natCast] at this
            rw [this, rdOf, Int.toNat_natCast, hz]
          have fj : w2.frozen? ⟨g, j, none⟩ = false := by
            have := (Kd.R_celln 0 HO2.out (j : Int) (by omega) qj).2
            rw [Int.toNat_natCast] at this
            exact this
          clear hz
          go_wp2
          have HO3 := Kd.R_putn HO2.out (j : Int) (y - (-x))
          rw [Int.toNat_natCast, ← HUP.out, show y - (-x) = (y + x) from by omega] at HO3
          obtain ⟨cells, hbk⟩ := R_block HO2.out (by omega)
          have HOUT3 := Kd.R_set HOUT2.out hbk (by decide) j (.int .i64 (y + x))
          have HB3 := below_set (j := j) (v := .int .i64 (y + x)) HB2.out hg1
          go_roundg k1
          case rel => exact ⟨upAt l i j (-x), out ++ [⟨i, j, (-x)⟩], ⟨by have := S5.out; have := HN.out; omega⟩, ⟨by rw [List.length_append, List.length_singleton]; have := HLE.out; omega⟩, ⟨S6.out.trans HL.out⟩, S4, S7, ⟨HGO.out.symm⟩, ⟨HO3⟩, ⟨HOUT3⟩, ⟨HB3⟩⟩
          case measure => omega
  · have g' : goodC xs p = false := by simpa using g
    rw [g'] at hv
    have hfin : multA xs p = ([], false) := by unfold multA; rw [if_neg g]
    rw [hfin]
    have HV := Aside0.mk hv
    have HR0 := Aside0.mk hr0
    have HC0 := Aside0.mk hc0
    clear hv hr0 hc0 hfin g g' ha0
    go_enter Try.func30, Try.ntmps30
    go_wp2_with (go_at_call 16; refine (impl_IsValidClaims.calls kv _ _ xs _ false _ HR0.out HC0.out HV.out).mono ?_; rintro e w1 ⟨rfl, hb⟩; have HB := Aside0.mk hb; clear hb)
    go_ret2
    exact ⟨_, rfl, Kd.R_nil _ _ _ _ _, HB.out⟩
set_option maxHeartbeats 4000000 in
set_option maxRecDepth 100000 in
theorem specPos_c (A0 : Option Addr) (c0 : Nat) (xs : List S54) (m : Nat) (w : World) (hr0 : Kd.C k54 w A0 xs.length xs) (hc0 : xs.length ≤ c0) (hm : 1 ≤ m ∧ m ≤ 8) (hn : xs.length ≤ 20) (hok : ∀ a ∈ xs, okC m a) :
    Calls Try.prog 50 #[.slice A0 xs.length c0, .int .i64 m] w fun e w' => ∃ v, e = .returned v ∧ (Kd.int .i64).R 3 w' w.heap.size (fun _ => True) v (posFold (List.replicate m 0) xs) ∧ Below w.heap.size w w' := by
  have HR0 := Aside0.mk hr0
  have HC0 := Aside0.mk hc0
  have HOK := Aside0.mk hok
  have m1 := hm.1
  have m2 := hm.2
  clear hr0 hc0 hok hm
  go_enter Try.func50, Try.ntmps50
  go_wp2_with ((with_reducible refine gate_dst (N := 8) rfl ?_); refine Kd.R_make (Kd.int .i64) w.heap.size 3 rfl (N := 8) rfl 31 _ _ rfl (m : Int) rfl rfl Try.underlying31 (.int .i64 0) 8 infoI rfl (by decide) (by omega) 0 (ok := fun _ => True) (okp := fun _ => True) rfl (fun _ hk => hk) trivial (by omega) (by omega) (by repeat (first | (with_reducible first | exact (Below.refl w.heap.size w) | apply below_alloc | apply pw_below_drewN | apply below_drew1) | exact (Below.refl w.heap.size w))) (below_size (by repeat (first | (with_reducible first | exact (Below.refl w.heap.size w) | apply below_alloc | apply pw_below_drewN | apply below_drew1) | exact (Below.refl w.heap.size w)))) ?_; intro v1 w1 ho hb _ _)
  rw [Int.toNat_natCast] at ho
  obtain ⟨g, cap, hv, hg1, hg2, cells, hg3⟩ := Kd.R_form ho (by rw [List.length_replicate]; omega)
  rw [List.length_replicate] at hv
  subst hv
  have HO := Aside0.mk ho
  have HB := Aside0.mk hb
  clear ho hb hg2 hg3 cells
  go_loopw [6] (fun v6 wr => ∃ (pre rest : List S54) (out : List Int), Aside0 (xs = pre ++ rest) ∧ v6 = .int .i64 pre.length ∧ Aside0 (out.length = m) ∧ Aside0 (posFold out rest = posFold (List.replicate m 0) xs) ∧ Aside0 ((Kd.int .i64).R 3 wr w.heap.size (fun _ => True) (.slice (some ⟨g, 0, none⟩) m cap) out) ∧ Aside0 (Below w.heap.size w wr)) (fun v6 _ => xs.length - (intOf v6).toNat)
  case atStart => exact ⟨[], xs, List.replicate m 0, ⟨rfl⟩, rfl, ⟨List.length_replicate⟩, ⟨rfl⟩, HO, HB⟩
  case round =>
    clear HO
    obtain ⟨pre, rest, out, HX, rfl, HL, HP, HO, HB⟩ := hrel
    cases rest with
    | nil =>
      have c : decide (pre.length < xs.length) = false := decide_eq_false (by have := len_nil HX.out; omega)
      go_wp2
      go_ret
      exact ⟨_, rfl, by rw [← HP.out]; exact HO.out, HB.out⟩
    | cons a t =>
      have hlt := len_cons HX.out
      have hpl : (pre.length : Int) < xs.length := by omega
      have ha := HOK.out a (by rw [HX.out]; simp)
      have p0 := ha.1.1
      have q0 : a.f0 < (m : Int) := by have := ha.1.2; omega
      have p1 := ha.2.1.1
      have q1 : a.f1 < (m : Int) := by have := ha.2.1.2; omega
      obtain ⟨ad, e0, hx0, hx1, hx2⟩ := at_T54 HR0.out (pre.length : Int) (by omega) hpl
      rw [rd_T54_at HX.out rfl] at hx0 hx1 hx2
      simp only [Int.toNat_natCast] at hx0 hx1 hx2
      cases e0
      have X0 := Aside0.mk hx0
      have X1 := Aside0.mk hx1
      have X2 := Aside0.mk hx2
      replace hx0 := (HB.out.cell (World.block_lt_of_cell? w _ hx0)).trans hx0
      replace hx1 := (HB.out.cell (World.block_lt_of_cell? w _ hx1)).trans hx1
      replace hx2 := (HB.out.cell (World.block_lt_of_cell? w _ hx2)).trans hx2
      have c : decide (pre.length < xs.length) = true := decide_eq_true (by omega)
      have c' : pre.length < xs.length := by omega
      clear hlt
      have hy : wr.cell? ⟨g, a.f0.toNat, none⟩ = some (.int .i64 (rd out a.f0)) := (Kd.R_celln 0 HO.out a.f0 p0 q0).1
      have hf := (Kd.R_celln 0 HO.out a.f0 p0 q0).2
      go_upto_region 5 with (fail)
      go_region
      clear hy hf hx0 hx1 hx2
      have HO1 := Aside0.mk (Kd.R_putn HO.out a.f0 (wrap64 (rd out a.f0 - a.f2)))
      have HB1 := Aside0.mk (below_set (j := a.f0.toNat) (v := .int .i64 (wrap64 (rd out a.f0 - a.f2))) HB.out hg1)
      generalize wr.setCell ⟨g, a.f0.toNat, none⟩ (.int .i64 (wrap64 (rd out a.f0 - a.f2))) = wr1 at HO1 HB1 ⊢
      have hx0 := (HB1.out.cell (World.block_lt_of_cell? w _ X0.out)).trans X0.out
      have hx1 := (HB1.out.cell (World.block_lt_of_cell? w _ X1.out)).trans X1.out
      have hx2 := (HB1.out.cell (World.block_lt_of_cell? w _ X2.out)).trans X2.out
      have hy : wr1.cell? ⟨g, a.f1.toNat, none⟩ = some (.int .i64 (rd (out.set a.f0.toNat (wrap64 (rd out a.f0 - a.f2))) a.f1)) := (Kd.R_celln 0 HO1.out a.f1 p1 q1).1
      have hf := (Kd.R_celln 0 HO1.out a.f1 p1 q1).2
      go_upto_region 6 with (fail)
      go_region
      clear hy hf hx0 hx1 hx2
      go_wp2
      go_roundw
      case rel => exact ⟨pre ++ [a], t, posStep out a, ⟨snoc HX.out⟩, by rw [len_snoc], ⟨by rw [posStep_length]; exact HL.out⟩, ⟨HP.out⟩, ⟨Kd.R_putn (by (with_reducible repeat (first | apply Kd.R_alloc | apply Kd.R_drewN | apply Kd.R_drew)); exact HO1.out) a.f1 _⟩, ⟨by repeat (first | exact HB1.out | apply below_alloc | apply pw_below_drewN | apply below_drew1 | refine below_set ?_ hg1)⟩⟩
      case measure => simp [intOf]; omega
set_option maxHeartbeats 8000000 in
set_option maxRecDepth 100000 in
theorem spec_c (A0 : Option Addr) (c0 : Nat) (xs : List S54) (p : Int) (w : World) (hr0 : Kd.C k54 w A0 xs.length xs) (hc0 : xs.length ≤ c0) (ha0 : 0 < xs.length → ∃ b, A0 = some ⟨b, 0, none⟩) (hn : xs.length ≤ 1048576) :
    Calls Try.prog 29 #[.slice A0 xs.length c0, .int .i64 p] w fun e w' => ∃ v, e = .returned (.tuple #[v, .bool (multA xs p).2]) ∧ Kd.R k54 54 w' w.heap.size (fun _ => True) v (multA xs p).1 ∧ Below w.heap.size w w' := by
  obtain ⟨kv, hv⟩ := roundsOf (specGoodC_ev xs p hn)
  by_cases g : goodC xs p = true
  · rw [g] at hv
    have gg := of_decide_eq_true g
    obtain ⟨⟨p1, p2⟩, hx20, hok, hsum⟩ := gg
    obtain ⟨m, rfl⟩ := Int.eq_ofNat_of_zero_le (show 0 ≤ p from by omega)
    have hfin : multA xs m = (multF m (posFold (List.replicate m 0) xs) [], true) := by unfold multA; rw [if_pos g, Int.toNat_natCast]
    have hfacts := posFold_facts m xs hok hsum xs [] (List.replicate m 0) rfl List.length_replicate (lsum_replicate m) (fun x hx => by rw [List.eq_of_mem_replicate hx]; simp [sumC])
    have hlen : (posFold (List.replicate m 0) xs).length = m := by rw [posFold_length, List.length_replicate]
    rw [hfin]
    obtain ⟨FIN, hFIN⟩ : ∃ F, F = multF m (posFold (List.replicate m 0) xs) [] := ⟨_, rfl⟩
    rw [← hFIN]
    have HV := Aside0.mk hv
    have HR0 := Aside0.mk hr0
    have HC0 := Aside0.mk hc0
    have HOK := Aside0.mk hok
    have HF := Aside0.mk hFIN
    have HFA := Aside0.mk hfacts
    have HLN := Aside0.mk hlen
    have HM := Aside0.mk (show 2 ≤ m ∧ m ≤ 8 from by omega)
    have HX := Aside0.mk hx20
    clear hv hr0 hc0 hok hFIN hfacts hlen hx20 g hfin hsum ha0 p1 p2
    go_enter Try.func29, Try.ntmps29
    go_wp2_with ((with_reducible refine gate_dst (N := 12) rfl ?_); refine Kd.R_lit k54 w.heap.size 54 (w0 := w) ?hg (N := 12) ?hd (xs := []) (inner := []) (ok := fun _ => True) (okp := fun _ => True) ?hr ?hp (fun _ hk => hk) trivial (by repeat (first | (with_reducible first | exact (Below.refl w.heap.size w) | apply below_alloc | apply pw_below_drewN | apply below_drew1) | exact (Below.refl w.heap.size w))) (below_size (by repeat (first | (with_reducible first | exact (Below.refl w.heap.size w) | apply below_alloc | apply pw_below_drewN | apply below_drew1) | exact (Below.refl w.heap.size w)))) (by simp) ?_; (case hd => rfl); (case hg => rfl); (case hr => first | (go_simp; done) | (go_simp; rfl)); (case hp => exact (Reps.none _ _)); intro v1 w1 ho hb hgr hnw)
    have HOUT := Aside0.mk ho
    have HB := Aside0.mk hb
    clear ho hb hgr hnw
    refine (spec_l16Good.calls kv _ _ xs _ true _ (by repeat (first | exact (Kd.C_below HR0.out HB.out) | (with_reducible refine Kd.C_alloc ?_ _) | (with_reducible refine Kd.C_drewN ?_ _) | (with_reducible refine Kd.C_drew ?_))) HC0.out HV.out).mono ?_
    rintro e w2 ⟨rfl, hb⟩
    have n_ := Aside0.mk (Kd.R_below (by (with_reducible repeat (first | apply Kd.R_alloc | apply Kd.R_drewN | apply Kd.R_drew)); exact HOUT.out) hb)
    clear HOUT
    have HOUT := n_
    clear n_
    have n_ := Aside0.mk (below_step (by repeat (first | (with_reducible first | exact HB.out | apply below_alloc | apply pw_below_drewN | apply below_drew1) | exact HB.out)) hb)
    clear HB hb
    have HB := n_
    clear n_
    go_wp2_with fail
    refine (specPos_c _ _ xs m _ (by repeat (first | exact (Kd.C_below HR0.out HB.out) | (with_reducible refine Kd.C_alloc ?_ _) | (with_reducible refine Kd.C_drewN ?_ _) | (with_reducible refine Kd.C_drew ?_))) HC0.out (by have := HM.out; omega) HX.out HOK.out).mono ?_
    rintro e w3 ⟨v6, rfl, ho, hb⟩
    obtain ⟨g, cap, hv6, hg1, hg2, cells, hg3⟩ := Kd.R_form ho (by rw [HLN.out]; have := HM.out; omega)
    rw [HLN.out] at hv6
    subst hv6
    have HO := Aside0.mk (Kd.R_lower ho (show w.heap.size ≤ _ from below_size HB.out))
    replace hg1 : w.heap.size ≤ g := Nat.le_trans (below_size HB.out) hg1
    have n_ := Aside0.mk (Kd.R_below (by (with_reducible repeat (first | apply Kd.R_alloc | apply Kd.R_drewN | apply Kd.R_drew)); exact HOUT.out) hb)
    clear HOUT
    have HOUT := n_
    clear n_
    have n_ := Aside0.mk (below_step (by repeat (first | (with_reducible first | exact HB.out | apply below_alloc | apply pw_below_drewN | apply below_drew1) | exact HB.out)) hb)
    clear HB hb
    have HB := n_
    clear n_ ho hg2 hg3 cells
    go_wp2_with fail
    go_loopg [6] m (fun kq v6 wr => ∃ (l : List Int) (out : List S54), Aside0 (nz l ≤ kq) ∧ Aside0 (out.length + kq ≤ m) ∧ Aside0 (l.length = m) ∧ Aside0 (lsum l = 0) ∧ Aside0 (∀ x ∈ l, -1000000000 ≤ x ∧ x ≤ 1000000000) ∧ Aside0 (multF kq l out = FIN) ∧ Aside0 ((Kd.int .i64).R 3 wr w.heap.size (fun _ => True) (.slice (some ⟨g, 0, none⟩) m cap) l) ∧ Aside0 (Kd.R k54 54 wr w.heap.size (fun _ => True) v6 out) ∧ Aside0 (Below w.heap.size w wr))
    case atStart => exact ⟨posFold (List.replicate m 0) xs, [], ⟨by have := nz_le (posFold (List.replicate m 0) xs); rw [HLN.out] at this; exact this⟩, ⟨by simp⟩, HLN, ⟨HFA.out.1⟩, ⟨HFA.out.2⟩, ⟨HF.out.symm⟩, HO, HOUT, HB⟩
    case round =>
      clear HO HOUT HB
      obtain ⟨l, out, HN, HLE, HL, HS, HBD, HFN, HO, HOUT, HB⟩ := hrel
      have hm2 := HM.out
      go_wp2
      go_loopw [8, 9, 10] (fun v8 v9 v10 wq => ∃ (lo hi k : Nat), v8 = .int .i64 lo ∧ v9 = .int .i64 hi ∧ v10 = .int .i64 k ∧ Aside0 (1 ≤ k ∧ k ≤ m) ∧ Aside0 (IsLoK l k lo) ∧ Aside0 (IsHiK l k hi) ∧ Aside0 ((Kd.int .i64).R 3 wq w.heap.size (fun _ => True) (.slice (some ⟨g, 0, none⟩) m cap) l) ∧ Aside0 (Kd.R k54 54 wq w.heap.size (fun _ => True) u6 out) ∧ Aside0 (Below w.heap.size w wq)) (fun _ _ v10 _ => m - (intOf v10).toNat)
      case atStart => exact ⟨0, 0, 1, rfl, rfl, rfl, ⟨by omega⟩, ⟨isLoK_one l⟩, ⟨isHiK_one l⟩, HO, HOUT, HB⟩
      case round =>
        clear HO HOUT HB
        obtain ⟨lo, hi, k, rfl, rfl, rfl, HK, HLO, HHI, HO, HOUT, HB⟩ := hrel
        have hk1 := HK.out.1
        have qlo : (lo : Int) < (m : Int) := by have := HLO.out.1; have := HK.out.2; omega
        have qhi : (hi : Int) < (m : Int) := by have := HHI.out.1; have := HK.out.2; omega
        have cell : ∀ q : Nat, (q : Int) < (m : Int) → wr.cell? ⟨g, q, none⟩ = some (.int .i64 (l.getD q 0)) := by
          intro q hq
          have := (Kd.R_celln 0 HO.out (q : Int) (by omega) hq).1
          rw [Int.toNat_natCast] at this
          rw [this, rdOf, Int.toNat_natCast]
        by_cases hkm : k < m
        · have qk : (k : Int) < (m : Int) := by omega
          have yk := cell k qk
          have ylo := cell lo qlo
          have yhi := cell hi qhi
          clear cell
          have HKM := Aside0.mk hkm
          have ckm : decide (k < m) = true := decide_eq_true hkm
          clear hkm
          obtain ⟨x, hx⟩ : ∃ x, x = l.getD k 0 := ⟨_, rfl⟩
          obtain ⟨y, hy⟩ : ∃ y, y = l.getD lo 0 := ⟨_, rfl⟩
          obtain ⟨z, hz⟩ : ∃ z, z = l.getD hi 0 := ⟨_, rfl⟩
          rw [← hx] at yk
          rw [← hy] at ylo
          rw [← hz] at yhi
          have HXE := Aside0.mk hx
          have HYE := Aside0.mk hy
          have HZE := Aside0.mk hz
          clear hx hy hz
          by_cases ca : x < y
          · have HLO' := Aside0.mk (isLoK_new HLO.out (by rw [← HXE.out, ← HYE.out]; exact ca))
            have cab : decide (x < y) = true := by simpa using ca
            clear ca HLO
            by_cases cb : z < x
            · have HHI' := Aside0.mk (isHiK_new HHI.out (by rw [← HXE.out, ← HZE.out]; exact cb))
              have cbb : decide (z < x) = true := by simpa using cb
              clear cb HHI
              go_upto_region 9 with (fail)
              go_region
              go_upto_region 11 with (fail)
              go_region
              go_wp2
              go_roundw
              case rel => exact ⟨k, k, k + 1, by go_num, by go_num, by go_num, ⟨by have := HKM.out; omega⟩, HLO', HHI', ⟨(by (with_reducible repeat (first | apply Kd.R_alloc | apply Kd.R_drewN | apply Kd.R_drew)); exact HO.out)⟩, ⟨(by (with_reducible repeat (first | apply Kd.R_alloc | apply Kd.R_drewN | apply Kd.R_drew)); exact HOUT.out)⟩, ⟨(by repeat (first | (with_reducible first | exact HB.out | apply below_alloc | apply pw_below_drewN | apply below_drew1) | exact HB.out))⟩⟩
              case measure => simp [intOf]; have := HKM.out; omega
            · have HHI' := Aside0.mk (isHiK_old HHI.out (by rw [← HXE.out, ← HZE.out]; exact cb))
              have cbb : decide (z < x) = false := by simpa using cb
              clear cb HHI
              go_upto_region 9 with (fail)
              go_region
              go_upto_region 11 with (fail)
              go_region
              go_wp2
              go_roundw
              case rel => exact ⟨k, hi, k + 1, by go_num, by go_num, by go_num, ⟨by have := HKM.out; omega⟩, HLO', HHI', ⟨(by (with_reducible repeat (first | apply Kd.R_alloc | apply Kd.R_drewN | apply Kd.R_drew)); exact HO.out)⟩, ⟨(by (with_reducible repeat (first | apply Kd.R_alloc | apply Kd.R_drewN | apply Kd.R_drew)); exact HOUT.out)⟩, ⟨(by repeat (first | (with_reducible first | exact HB.out | apply below_alloc | apply pw_below_drewN | apply below_drew1) | exact HB.out))⟩⟩
              case measure => simp [intOf]; have := HKM.out; omega
          · have HLO' := Aside0.mk (isLoK_old HLO.out (by rw [← HXE.out, ← HYE.out]; exact ca))
            have cab : decide (x < y) = false := by simpa using ca
            clear ca HLO
            by_cases cb : z < x
            · have HHI' := Aside0.mk (isHiK_new HHI.out (by rw [← HXE.out, ← HZE.out]; exact cb))
              have cbb : decide (z < x) = true := by simpa using cb
              clear cb HHI
              go_upto_region 9 with (fail)
              go_region
              go_upto_region 11 with (fail)
              go_region
              go_wp2
              go_roundw
              case rel => exact ⟨lo, k, k + 1, by go_num, by go_num, by go_num, ⟨by have := HKM.out; omega⟩, HLO', HHI', ⟨(by (with_reducible repeat (first | apply Kd.R_alloc | apply Kd.R_drewN | apply Kd.R_drew)); exact HO.out)⟩, ⟨(by (with_reducible repeat (first | apply Kd.R_alloc | apply Kd.R_drewN | apply Kd.R_drew)); exact HOUT.out)⟩, ⟨(by repeat (first | (with_reducible first | exact HB.out | apply below_alloc | apply pw_below_drewN | apply below_drew1) | exact HB.out))⟩⟩
              case measure => simp [intOf]; have := HKM.out; omega
            · have HHI' := Aside0.mk (isHiK_old HHI.out (by rw [← HXE.out, ← HZE.out]; exact cb))
              have cbb : decide (z < x) = false := by simpa using cb
              clear cb HHI
              go_upto_region 9 with (fail)
              go_region
              go_upto_region 11 with (fail)
              go_region
              go_wp2
              go_roundw
              case rel => exact ⟨lo, hi, k + 1, by go_num, by go_num, by go_num, ⟨by have := HKM.out; omega⟩, HLO', HHI', ⟨(by (with_reducible repeat (first | apply Kd.R_alloc | apply Kd.R_drewN | apply Kd.R_drew)); exact HO.out)⟩, ⟨(by (with_reducible repeat (first | apply Kd.R_alloc | apply Kd.R_drewN | apply Kd.R_drew)); exact HOUT.out)⟩, ⟨(by repeat (first | (with_reducible first | exact HB.out | apply below_alloc | apply pw_below_drewN | apply below_drew1) | exact HB.out))⟩⟩
              case measure => simp [intOf]; have := HKM.out; omega
        · obtain rfl : k = m := by have := HK.out.2; omega
          have ckm : decide (k < k) = false := decide_eq_false (by omega)
          have HLOI : Aside0 (IsLo l lo) := ⟨by have h := HLO.out; rw [← HL.out] at h; exact h⟩
          have HHII : Aside0 (IsHi l hi) := ⟨by have h := HHI.out; rw [← HL.out] at h; exact h⟩
          have bi := HBD.out _ (getD_mem' HLOI.out.1)
          have bj := HBD.out _ (getD_mem' HHII.out.1)
          have yi := cell lo qlo
          have yj := cell hi qhi
          have ham : amtOf l lo hi = if -(l.getD lo 0) ≤ l.getD hi 0 then -(l.getD lo 0) else l.getD hi 0 := rfl
          obtain ⟨x, hx⟩ : ∃ x, x = l.getD lo 0 := ⟨_, rfl⟩
          obtain ⟨y, hy⟩ : ∃ y, y = l.getD hi 0 := ⟨_, rfl⟩
          rw [← hx] at bi yi ham
          rw [← hy] at bj yj ham
          have HAM := Aside0.mk ham
          have HXE := Aside0.mk hx
          have HYE := Aside0.mk hy
          clear hx hy ham cell hkm HK HLO HHI hk1
          by_cases c1 : y < -x
          · have hle := Aside0.mk (show spec_l1Least.f (-x) y = some y from by rw [l1Least_eq]; unfold minI; split <;> first | rfl | (congr 1; omega) | omega)
            have ham : amtOf l lo hi = y := by rw [HAM.out]; split <;> omega
            clear c1
            go_upto_region 13 with (fail)
            go_quiet ((go_at_call 56; exact Calls.quiet_of ((spec_l1Least.calls (-x) y y _ hle.out).mono fun e w' ⟨he, ⟨n, hw⟩⟩ => ⟨he, n, hw⟩)))
            clear yi yj
            by_cases c2 : y = 0
            · have c2b : (y == 0) = true := by rw [beq_iff_eq]; exact c2
              have hend := multF_end (k := gk) (out := out) HLOI.out HHII.out (by rw [ham]; exact c2)
              rw [HFN.out] at hend
              have HE := Aside0.mk hend
              clear c2 ham hend
              go_wp2
              go_ret2
              rw [HE.out]
              exact ⟨_, rfl, (by (with_reducible repeat (first | apply Kd.R_alloc | apply Kd.R_drewN | apply Kd.R_drew)); exact HOUT.out), (by repeat (first | (with_reducible first | exact HB.out | apply below_alloc | apply pw_below_drewN | apply below_drew1) | exact HB.out))⟩
            · have c2b : (y == 0) = false := by rw [beq_eq_false_iff_ne]; exact c2
              have hst := mult_step HLOI.out HHII.out HS.out HBD.out (by rw [ham]; exact c2)
              rw [ham] at hst
              obtain ⟨s1, s2, s3, s4, s5, s6, s7⟩ := hst
              obtain ⟨k1, rfl⟩ : ∃ k1, gk = k1 + 1 := ⟨gk - 1, by have := HN.out; omega⟩
              have hgo := multF_go (k := k1) (out := out) HLOI.out HHII.out (by rw [ham]; exact c2)
              rw [ham, HFN.out] at hgo
              have HGO := Aside0.mk hgo
              have S4 := Aside0.mk s4
              have S5 := Aside0.mk s5
              have S6 := Aside0.mk s6
              have S7 := Aside0.mk s7
              have S3 := Aside0.mk s3
              have hlen : out.length ≤ 8 := by have := HLE.out; omega
              clear c2 ham hgo s3 s4 s5 s6 s7
              go_upto_region 17 with ((with_reducible refine gate_builtin (b := .append) (xs := #[.tmp 59, .tmp 64]) rfl ?_); at_builtin; refine Kd.R_append k54 (w0 := w) w.heap.size rfl (.tmp 59) (.tmp 64) 25 54 (.agg #[(.int .i64 0), (.int .i64 0), (.int .i64 0)]) 24 rfl Try.underlying25 infoC rfl (by decide) (by omega) u6 out (⟨lo, hi, y⟩ : S54) [.int .i64 lo, .int .i64 hi, .int .i64 y] (fun _ => True) (fun _ => False) rfl rfl ?aP (fun _ hk => hk.elim) ?aF ?aO ?aB ?aS ?aL ?_; (case aP => exact k54_mkM _ _ _ _); (case aB => exact (by repeat (first | (with_reducible first | exact HB.out | apply below_alloc | apply pw_below_drewN | apply below_drew1) | exact HB.out))); (case aF => exact (fun _ _ => trivial)); (case aO => exact (by (with_reducible repeat (first | apply Kd.R_alloc | apply Kd.R_drewN | apply Kd.R_drew)); exact HOUT.out)); (case aS => exact (below_size (by repeat (first | (with_reducible first | exact HB.out | apply below_alloc | apply pw_below_drewN | apply below_drew1) | exact HB.out)))); (case aL => omega); intro v1 w1 ho hb hg hat)
              have HO1 := Aside0.mk (Kd.R_over (by (with_reducible repeat (first | apply Kd.R_alloc | apply Kd.R_drewN | apply Kd.R_drew)); exact HO.out) (by (with_reducible repeat (first | apply Kd.R_alloc | apply Kd.R_drewN | apply Kd.R_drew)); exact HOUT.out) (by decide) hg)
              have HOUT1 := Aside0.mk ho
              have HB1 := Aside0.mk hb
              clear ho hb hg hat HO HOUT HB
              have yi : w1.cell? ⟨g, lo, none⟩ = some (.int .i64 x) := by
                have := (Kd.R_celln 0 HO1.out (lo : Int) (by omega) qlo).1
                rw [Int.toNat_natCast] at this
                rw [this, rdOf, Int.toNat_natCast, HXE.out]
              have fi : w1.frozen? ⟨g, lo, none⟩ = false := by
                have := (Kd.R_celln 0 HO1.out (lo : Int) (by omega) qlo).2
                rw [Int.toNat_natCast] at this
                exact this
              go_upto_region 18 with (fail)
              have hup : upAt l lo hi y = (l.set lo (x + y)).set hi (y - y) := by
                have e : (l.set lo (x + y)).getD hi 0 = y := by
                  rw [HYE.out]
                  simp only [List.getD_eq_getElem?_getD]
                  rw [List.getElem?_set_ne S3.out]
                unfold upAt
                rw [← HXE.out, e]
              have HUP := Aside0.mk hup
              have hz : (l.set lo (x + y)).getD hi 0 = y := by
                rw [HYE.out]
                simp only [List.getD_eq_getElem?_getD]
                rw [List.getElem?_set_ne S3.out]
              have HO2 := Kd.R_putn HO1.out (lo : Int) (x + y)
              rw [Int.toNat_natCast] at HO2
              obtain ⟨cells, hbk⟩ := R_block HO1.out (by omega)
              have HOUT2 := Kd.R_set HOUT1.out hbk (by decide) lo (.int .i64 (x + y))
              have HB2 := below_set (j := lo) (v := .int .i64 (x + y)) HB1.out hg1
              replace HO2 := Aside0.mk HO2
              replace HOUT2 := Aside0.mk HOUT2
              replace HB2 := Aside0.mk HB2
              clear hbk yi fi HO1 HOUT1 HB1 hup
              generalize w1.setCell ⟨g, lo, none⟩ (.int .i64 (x + y)) = w2 at HO2 HOUT2 HB2 ⊢
              have yj : w2.cell? ⟨g, hi, none⟩ = some (.int .i64 y) := by
                have := (Kd.R_celln 0 HO2.out (hi : Int) (by omega) qhi).1
                rw [Int.toNat_natCast] at this
                rw [this, rdOf, Int.toNat_natCast, hz]
              have fj : w2.frozen? ⟨g, hi, none⟩ = false := by
                have := (Kd.R_celln 0 HO2.out (hi : Int) (by omega) qhi).2
                rw [Int.toNat_natCast] at this
                exact this
              clear hz
              go_wp2
              have HO3 := Kd.R_putn HO2.out (hi : Int) (y - y)
              rw [Int.toNat_natCast, ← HUP.out, show y - y = 0 from by omega] at HO3
              obtain ⟨cells, hbk⟩ := R_block HO2.out (by omega)
              have HOUT3 := Kd.R_set HOUT2.out hbk (by decide) hi (.int .i64 0)
              have HB3 := below_set (j := hi) (v := .int .i64 0) HB2.out hg1
              go_roundg k1
              case rel => exact ⟨upAt l lo hi y, out ++ [⟨lo, hi, y⟩], ⟨by have := S5.out; have := HN.out; omega⟩, ⟨by rw [List.length_append, List.length_singleton]; have := HLE.out; omega⟩, ⟨S6.out.trans HL.out⟩, S4, S7, ⟨HGO.out.symm⟩, ⟨HO3⟩, ⟨HOUT3⟩, ⟨HB3⟩⟩
              case measure => omega
          · have hle := Aside0.mk (show spec_l1Least.f (-x) y = some (-x) from by rw [l1Least_eq]; unfold minI; split <;> first | rfl | (congr 1; omega) | omega)
            have ham : amtOf l lo hi = (-x) := by rw [HAM.out]; split <;> omega
            clear c1
            go_upto_region 13 with (fail)
            go_quiet ((go_at_call 56; exact Calls.quiet_of ((spec_l1Least.calls (-x) y (-x) _ hle.out).mono fun e w' ⟨he, ⟨n, hw⟩⟩ => ⟨he, n, hw⟩)))
            clear yi yj
            by_cases c2 : (-x) = 0
            · have c2b : ((-x) == 0) = true := by rw [beq_iff_eq]; exact c2
              have hend := multF_end (k := gk) (out := out) HLOI.out HHII.out (by rw [ham]; exact c2)
              rw [HFN.out] at hend
              have HE := Aside0.mk hend
              clear c2 ham hend
              go_wp2
              go_ret2
              rw [HE.out]
              exact ⟨_, rfl, (by (with_reducible repeat (first | apply Kd.R_alloc | apply Kd.R_drewN | apply Kd.R_drew)); exact HOUT.out), (by repeat (first | (with_reducible first | exact HB.out | apply below_alloc | apply pw_below_drewN | apply below_drew1) | exact HB.out))⟩
            · have c2b : ((-x) == 0) = false := by rw [beq_eq_false_iff_ne]; exact c2
              have hst := mult_step HLOI.out HHII.out HS.out HBD.out (by rw [ham]; exact c2)
              rw [ham] at hst
              obtain ⟨s1, s2, s3, s4, s5, s6, s7⟩ := hst
              obtain ⟨k1, rfl⟩ : ∃ k1, gk = k1 + 1 := ⟨gk - 1, by have := HN.out; omega⟩
              have hgo := multF_go (k := k1) (out := out) HLOI.out HHII.out (by rw [ham]; exact c2)
              rw [ham, HFN.out] at hgo
              have HGO := Aside0.mk hgo
              have S4 := Aside0.mk s4
              have S5 := Aside0.mk s5
              have S6 := Aside0.mk s6
              have S7 := Aside0.mk s7
              have S3 := Aside0.mk s3
              have hlen : out.length ≤ 8 := by have := HLE.out; omega
              clear c2 ham hgo s3 s4 s5 s6 s7
              go_upto_region 17 with ((with_reducible refine gate_builtin (b := .append) (xs := #[.tmp 59, .tmp 64]) rfl ?_); at_builtin; refine Kd.R_append k54 (w0 := w) w.heap.size rfl (.tmp 59) (.tmp 64) 25 54 (.agg #[(.int .i64 0), (.int .i64 0), (.int .i64 0)]) 24 rfl Try.underlying25 infoC rfl (by decide) (by omega) u6 out (⟨lo, hi, (-x)⟩ : S54) [.int .i64 lo, .int .i64 hi, .int .i64 (-x)] (fun _ => True) (fun _ => False) rfl rfl ?aP (fun _ hk => hk.elim) ?aF ?aO ?aB ?aS ?aL ?_; (case aP => exact k54_mkM _ _ _ _); (case aB => exact (by repeat (first | (with_reducible first | exact HB.out | apply below_alloc | apply pw_below_drewN | apply below_drew1) | exact HB.out))); (case aF => exact (fun _ _ => trivial)); (case aO => exact (by (with_reducible repeat (first | apply Kd.R_alloc | apply Kd.R_drewN | apply Kd.R_drew)); exact HOUT.out)); (case aS => exact (below_size (by repeat (first | (with_reducible first | exact HB.out | apply below_alloc | apply pw_below_drewN | apply below_drew1) | exact HB.out)))); (case aL => omega); intro v1 w1 ho hb hg hat)
              have HO1 := Aside0.mk (Kd.R_over (by (with_reducible repeat (first | apply Kd.R_alloc | apply Kd.R_drewN | apply Kd.R_drew)); exact HO.out) (by (with_reducible repeat (first | apply Kd.R_alloc | apply Kd.R_drewN | apply Kd.R_drew)); exact HOUT.out) (by decide) hg)
              have HOUT1 := Aside0.mk ho
              have HB1 := Aside0.mk hb
              clear ho hb hg hat HO HOUT HB
              have yi : w1.cell? ⟨g, lo, none⟩ = some (.int .i64 x) := by
                have := (Kd.R_celln 0 HO1.out (lo : Int) (by omega) qlo).1
                rw [Int.toNat_natCast] at this
                rw [this, rdOf, Int.toNat_natCast, HXE.out]
              have fi : w1.frozen? ⟨g, lo, none⟩ = false := by
                have := (Kd.R_celln 0 HO1.out (lo : Int) (by omega) qlo).2
                rw [Int.toNat_natCast] at this
                exact this
              go_upto_region 18 with (fail)
              have hup : upAt l lo hi (-x) = (l.set lo (x + (-x))).set hi (y - (-x)) := by
                have e : (l.set lo (x + (-x))).getD hi 0 = y := by
                  rw [HYE.out]
                  simp only [List.getD_eq_getElem?_getD]
                  rw [List.getElem?_set_ne S3.out]
                unfold upAt
                rw [← HXE.out, e]
              have HUP := Aside0.mk hup
              have hz : (l.set lo (x + (-x))).getD hi 0 = y := by
                rw [HYE.out]
                simp only [List.getD_eq_getElem?_getD]
                rw [List.getElem?_set_ne S3.out]
              have HO2 := Kd.R_putn HO1.out (lo : Int) (x + (-x))
              rw [Int.toNat_natCast] at HO2
              obtain ⟨cells, hbk⟩ := R_block HO1.out (by omega)
              have HOUT2 := Kd.R_set HOUT1.out hbk (by decide) lo (.int .i64 (x + (-x)))
              have HB2 := below_set (j := lo) (v := .int .i64 (x + (-x))) HB1.out hg1
              replace HO2 := Aside0.mk HO2
              replace HOUT2 := Aside0.mk HOUT2
              replace HB2 := Aside0.mk HB2
              clear hbk yi fi HO1 HOUT1 HB1 hup
              generalize w1.setCell ⟨g, lo, none⟩ (.int .i64 (x + (-x))) = w2 at HO2 HOUT2 HB2 ⊢
              have yj : w2.cell? ⟨g, hi, none⟩ = some (.int .i64 y) := by
                have := (Kd.R_celln 0 HO2.out (hi : Int) (by omega) qhi).1
                rw [Int.toNat_natCast] at this
                rw [this, rdOf, Int.toNat_natCast, hz]
              have fj : w2.frozen? ⟨g, hi, none⟩ = false := by
                have := (Kd.R_celln 0 HO2.out (hi : Int) (by omega) qhi).2
                rw [Int.toNat_natCast] at this
                exact this
              clear hz
              go_wp2
              have HO3 := Kd.R_putn HO2.out (hi : Int) (y - (-x))
              rw [Int.toNat_natCast, ← HUP.out, show y - (-x) = (y + x) from by omega] at HO3
              obtain ⟨cells, hbk⟩ := R_block HO2.out (by omega)
              have HOUT3 := Kd.R_set HOUT2.out hbk (by decide) hi (.int .i64 (y + x))
              have HB3 := below_set (j := hi) (v := .int .i64 (y + x)) HB2.out hg1
              go_roundg k1
              case rel => exact ⟨upAt l lo hi (-x), out ++ [⟨lo, hi, (-x)⟩], ⟨by have := S5.out; have := HN.out; omega⟩, ⟨by rw [List.length_append, List.length_singleton]; have := HLE.out; omega⟩, ⟨S6.out.trans HL.out⟩, S4, S7, ⟨HGO.out.symm⟩, ⟨HO3⟩, ⟨HOUT3⟩, ⟨HB3⟩⟩
              case measure => omega
  · have g' : goodC xs p = false := by simpa using g
    rw [g'] at hv
    have hfin : multA xs p = ([], false) := by unfold multA; rw [if_neg g]
    rw [hfin]
    have HV := Aside0.mk hv
    have HR0 := Aside0.mk hr0
    have HC0 := Aside0.mk hc0
    clear hv hr0 hc0 hfin g g' ha0
    go_enter Try.func29, Try.ntmps29
    go_wp2_with ((with_reducible refine gate_dst (N := 12) rfl ?_); refine Kd.R_lit k54 w.heap.size 54 (w0 := w) ?hg (N := 12) ?hd (xs := []) (inner := []) (ok := fun _ => True) (okp := fun _ => True) ?hr ?hp (fun _ hk => hk) trivial (by repeat (first | (with_reducible first | exact (Below.refl w.heap.size w) | apply below_alloc | apply pw_below_drewN | apply below_drew1) | exact (Below.refl w.heap.size w))) (below_size (by repeat (first | (with_reducible first | exact (Below.refl w.heap.size w) | apply below_alloc | apply pw_below_drewN | apply below_drew1) | exact (Below.refl w.heap.size w)))) (by simp) ?_; (case hd => rfl); (case hg => rfl); (case hr => first | (go_simp; done) | (go_simp; rfl)); (case hp => exact (Reps.none _ _)); intro v1 w1 ho hb hgr hnw)
    have HOUT := Aside0.mk ho
    have HB := Aside0.mk hb
    clear ho hb hgr hnw
    refine (spec_l16Good.calls kv _ _ xs _ false _ (by repeat (first | exact (Kd.C_below HR0.out HB.out) | (with_reducible refine Kd.C_alloc ?_ _) | (with_reducible refine Kd.C_drewN ?_ _) | (with_reducible refine Kd.C_drew ?_))) HC0.out HV.out).mono ?_
    rintro e w2 ⟨rfl, hb⟩
    have n_ := Aside0.mk (Kd.R_below (by (with_reducible repeat (first | apply Kd.R_alloc | apply Kd.R_drewN | apply Kd.R_drew)); exact HOUT.out) hb)
    clear HOUT
    have HOUT := n_
    clear n_
    have n_ := Aside0.mk (below_step (by repeat (first | (with_reducible first | exact HB.out | apply below_alloc | apply pw_below_drewN | apply below_drew1) | exact HB.out)) hb)
    clear HB hb
    have HB := n_
    clear n_
    go_wp2
    go_ret2
    exact ⟨_, rfl, (by (with_reducible repeat (first | apply Kd.R_alloc | apply Kd.R_drewN | apply Kd.R_drew)); exact HOUT.out), (by repeat (first | (with_reducible first | exact HB.out | apply below_alloc | apply pw_below_drewN | apply below_drew1) | exact HB.out))⟩
theorem flat_Claim (w : World) (b : Nat) (p q : Nat → Prop) (x : S54) (cs : List Value) (h : k54.M w b p x cs) : k54.M w b q x cs := by
  obtain rfl := k54_openM h
  exact k54_mkM w b q x

set_option maxHeartbeats 16000000 in
set_option maxRecDepth 100000 in
theorem law_c (A0 : Option Addr) (c0 : Nat) (l0 : List S56) (a1 : Int) (w : World) (hr0 : Kd.C k56 w A0 l0.length l0) (hc0 : l0.length ≤ c0) (hi1 : -9223372036854775808 ≤ a1 ∧ a1 ≤ 9223372036854775807) (he0 : ∀ y ∈ l0, (KReads.InI y.f0 ∧ KReads.InI y.f1 ∧ KReads.InI y.f2)) :
    Calls Try.prog 7 #[.slice A0 l0.length c0, .int .i64 a1] w fun e w' => e = .returned (.bool true) ∧ Below w.heap.size w w' := by
  have HR0 := Aside0.mk hr0
  have HC0 := Aside0.mk hc0
  have HM0 := Aside0.mk (Kd.C_max hr0)
  clear hr0 hc0
  by_cases hn0 : l0.length ≤ 1048576
  rotate_left
  · have hn_ := hn0
    have E0 := Aside0.mk ((szClaimS_eq l0 HM0.out).trans (congrArg some (if_neg hn0)))
    clear hn_
    go_enter Try.func7, Try.ntmps7
    go_wp2_with (go_at_call 13; refine (laws_szClaimS.calls _ _ l0 1048576 _ _ HR0.out HC0.out E0.out).mono ?_; rintro e w0_ ⟨rfl, ⟨q, rfl⟩⟩)
    go_ret
    exact ⟨rfl, (by repeat (first | (with_reducible first | exact Below.refl _ _ | apply below_alloc | apply pw_below_drewN | apply below_drew1) | exact Below.refl _ _))⟩
  have E0 := Aside0.mk ((szClaimS_eq l0 HM0.out).trans (congrArg some (if_pos hn0)))
  have cs0 : decide (1048576 - (l0.length : Int) < 0) = false := decide_eq_false (by omega)
  obtain ⟨L0, eL0⟩ : ∃ L_ : List S54, L_ = l0.map cv_Claim := ⟨_, rfl⟩
  have hv0 : L0.length ≤ 1048576 := by rw [eL0]; simpa using hn0
  have EL0 := Aside0.mk eL0
  clear eL0
  have HL0 := Aside0.mk (show ((multA L0 a1).1).length ≤ 1048576 from by have h_ := multA_len L0 a1; omega)
  have HB0 := Aside0.mk (Below.refl w.heap.size w)
  obtain ⟨kX0, hX0⟩ := roundsOf (toClaimS_ev l0 hn0)
  rw [← EL0.out] at hX0
  have X0 := Aside0.mk hX0
  clear hX0
  obtain ⟨kX1, hX1⟩ := roundsOf (eqClaimS_ev (multA L0 a1).1 (by have h_ := HL0.out; omega))
  have X1 := Aside0.mk hX1
  clear hX1
  obtain ⟨kX2, hX2⟩ := roundsOf (eqClaimS_ev L0 (by have h_ := hv0; omega))
  have X2 := Aside0.mk hX2
  clear hX2
  obtain ⟨kX3, hX3⟩ := roundsOf (markClaimS_ev L0 1 (by omega) (by have h_ := hv0; omega) (by have h_ := hv0; omega))
  obtain ⟨mX3, eX3⟩ : ∃ m_ : Int, m_ = 1 + 3 * ((L0).length : Int) := ⟨_, rfl⟩
  rw [← eX3] at hX3
  obtain ⟨UX3, uX3⟩ : ∃ U_ : List S54, U_ = upS_Claim (L0).length 1 := ⟨_, rfl⟩
  rw [← uX3] at hX3
  have VX3 := Aside0.mk (show UX3.length = (L0).length from by rw [uX3, upS_Claim_length])
  have ZX3 := Aside0.mk uX3
  clear uX3
  have cX3 : decide (mX3 < 0) = false := decide_eq_false (by omega)
  have PX3 := Aside0.mk (show 0 ≤ mX3 ∧ mX3 ≤ 1 + 8388608 from by have h_ := hv0; omega)
  have MX3 := Aside0.mk eX3
  clear eX3
  have X3 := Aside0.mk hX3
  clear hX3
  obtain ⟨kX4, hX4⟩ := roundsOf (markClaimS_ev (multA L0 a1).1 1 (by omega) (by have h_ := HL0.out; omega) (by have h_ := HL0.out; omega))
  obtain ⟨mX4, eX4⟩ : ∃ m_ : Int, m_ = 1 + 3 * (((multA L0 a1).1).length : Int) := ⟨_, rfl⟩
  rw [← eX4] at hX4
  obtain ⟨UX4, uX4⟩ : ∃ U_ : List S54, U_ = upS_Claim ((multA L0 a1).1).length 1 := ⟨_, rfl⟩
  rw [← uX4] at hX4
  have VX4 := Aside0.mk (show UX4.length = ((multA L0 a1).1).length from by rw [uX4, upS_Claim_length])
  have ZX4 := Aside0.mk uX4
  clear uX4
  have cX4 : decide (mX4 < 0) = false := decide_eq_false (by omega)
  have PX4 := Aside0.mk (show 0 ≤ mX4 ∧ mX4 ≤ 1 + 8388608 from by have h_ := HL0.out; omega)
  have MX4 := Aside0.mk eX4
  clear eX4
  have X4 := Aside0.mk hX4
  clear hX4
  obtain ⟨kX5, hX5⟩ := roundsOf (heldClaimS_ev ((multA L0 a1).1).length 1 (by omega) (by have h_ := HL0.out; omega) (by have h_ := HL0.out; omega))
  rw [← MX4.out, ← ZX4.out] at hX5
  have X5 := Aside0.mk hX5
  clear hX5
  go_enter Try.func7, Try.ntmps7
  go_wp2_with (go_at_call 13; refine (laws_szClaimS.calls _ _ l0 1048576 _ _ HR0.out HC0.out E0.out).mono ?_; rintro e w0_ ⟨rfl, ⟨q, rfl⟩⟩)
  refine (laws_toClaimS.calls kX0 _ _ l0 _ _ (by repeat (first | exact (Kd.C_below HR0.out HB0.out) | (with_reducible refine Kd.C_alloc ?_ _) | (with_reducible refine Kd.C_drewN ?_ _) | (with_reducible refine Kd.C_drew ?_))) HC0.out X0.out).mono ?_
  rintro e w1 ⟨v, rfl, ho, hb⟩
  have HB1 := Aside0.mk (below_step (by repeat (first | (with_reducible first | exact HB0.out | apply below_alloc | apply pw_below_drewN | apply below_drew1) | exact HB0.out)) hb)
  have SZ1 := Aside0.mk (show w.heap.size ≤ w1.heap.size from below_size (below_step (by repeat (first | (with_reducible first | exact Below.refl _ _ | apply below_alloc | apply pw_below_drewN | apply below_drew1) | exact Below.refl _ _)) hb))
  have HOt1 := Aside0.mk (R_ivw (a := w.heap.size) (b := w.heap.size) ho (below_size (by repeat (first | (with_reducible first | exact Below.refl _ _ | apply below_alloc | apply pw_below_drewN | apply below_drew1) | exact Below.refl _ _))) (below_size (by repeat (first | (with_reducible first | exact HB0.out | apply below_alloc | apply pw_below_drewN | apply below_drew1) | exact HB0.out))))
  obtain ⟨Art1, crt1, ert1⟩ := Kd.R_slice HOt1.out
  subst ert1
  clear ho hb
  go_wp2_with fail
  refine (spec_c _ _ L0 a1 _ (by repeat (first | exact (Kd.R_reads' HOt1.out).2.2 | (with_reducible refine Kd.C_alloc ?_ _) | (with_reducible refine Kd.C_drewN ?_ _) | (with_reducible refine Kd.C_drew ?_))) (Kd.R_reads' HOt1.out).2.1 (fun hp => R_head HOt1.out hp) hv0 ).mono ?_
  rintro e w2 ⟨v, rfl, ho, hb⟩
  have n_ := Aside0.mk (Kd.R_below (by (with_reducible repeat (first | apply Kd.R_alloc | apply Kd.R_drewN | apply Kd.R_drew)); exact HOt1.out) hb); clear HOt1; have HOt1 := n_; clear n_
  have HB2 := Aside0.mk (below_step (by repeat (first | (with_reducible first | exact HB1.out | apply below_alloc | apply pw_below_drewN | apply below_drew1) | exact HB1.out)) hb)
  have SZ2 := Aside0.mk (show w1.heap.size ≤ w2.heap.size from below_size (below_step (by repeat (first | (with_reducible first | exact Below.refl _ _ | apply below_alloc | apply pw_below_drewN | apply below_drew1) | exact Below.refl _ _)) hb))
  have HOw0 := Aside0.mk (R_ivw (a := w1.heap.size) (b := w.heap.size) ho (below_size (by repeat (first | (with_reducible first | exact Below.refl _ _ | apply below_alloc | apply pw_below_drewN | apply below_drew1) | exact Below.refl _ _))) (below_size (by repeat (first | (with_reducible first | exact HB1.out | apply below_alloc | apply pw_below_drewN | apply below_drew1) | exact HB1.out))))
  obtain ⟨Arw0, crw0, erw0⟩ := Kd.R_slice HOw0.out
  subst erw0
  clear ho hb
  go_wp2_with fail
  refine (laws_toClaimS.calls kX0 _ _ l0 _ _ (by repeat (first | exact (Kd.C_below HR0.out HB2.out) | (with_reducible refine Kd.C_alloc ?_ _) | (with_reducible refine Kd.C_drewN ?_ _) | (with_reducible refine Kd.C_drew ?_))) HC0.out X0.out).mono ?_
  rintro e w3 ⟨v, rfl, ho, hb⟩
  have n_ := Aside0.mk (Kd.R_below (by (with_reducible repeat (first | apply Kd.R_alloc | apply Kd.R_drewN | apply Kd.R_drew)); exact HOw0.out) hb); clear HOw0; have HOw0 := n_; clear n_
  have HB3 := Aside0.mk (below_step (by repeat (first | (with_reducible first | exact HB2.out | apply below_alloc | apply pw_below_drewN | apply below_drew1) | exact HB2.out)) hb)
  have SZ3 := Aside0.mk (show w2.heap.size ≤ w3.heap.size from below_size (below_step (by repeat (first | (with_reducible first | exact Below.refl _ _ | apply below_alloc | apply pw_below_drewN | apply below_drew1) | exact Below.refl _ _)) hb))
  have HOx0 := Aside0.mk (R_ivw (a := w2.heap.size) (b := w.heap.size) ho (below_size (by repeat (first | (with_reducible first | exact Below.refl _ _ | apply below_alloc | apply pw_below_drewN | apply below_drew1) | exact Below.refl _ _))) (below_size (by repeat (first | (with_reducible first | exact HB2.out | apply below_alloc | apply pw_below_drewN | apply below_drew1) | exact HB2.out))))
  obtain ⟨Arx0, crx0, erx0⟩ := Kd.R_slice HOx0.out
  subst erx0
  clear ho hb
  go_wp2_with fail
  refine (impl_c _ _ L0 a1 _ (by repeat (first | exact (Kd.R_reads' HOx0.out).2.2 | (with_reducible refine Kd.C_alloc ?_ _) | (with_reducible refine Kd.C_drewN ?_ _) | (with_reducible refine Kd.C_drew ?_))) (Kd.R_reads' HOx0.out).2.1 (fun hp => R_head HOx0.out hp) hv0 ).mono ?_
  rintro e w4 ⟨v, rfl, ho, hb⟩
  have n_ := Aside0.mk (Kd.R_below (by (with_reducible repeat (first | apply Kd.R_alloc | apply Kd.R_drewN | apply Kd.R_drew)); exact HOw0.out) hb); clear HOw0; have HOw0 := n_; clear n_
  have n_ := Aside0.mk (Kd.R_below (by (with_reducible repeat (first | apply Kd.R_alloc | apply Kd.R_drewN | apply Kd.R_drew)); exact HOx0.out) hb); clear HOx0; have HOx0 := n_; clear n_
  have HB4 := Aside0.mk (below_step (by repeat (first | (with_reducible first | exact HB3.out | apply below_alloc | apply pw_below_drewN | apply below_drew1) | exact HB3.out)) hb)
  have SZ4 := Aside0.mk (show w3.heap.size ≤ w4.heap.size from below_size (below_step (by repeat (first | (with_reducible first | exact Below.refl _ _ | apply below_alloc | apply pw_below_drewN | apply below_drew1) | exact Below.refl _ _)) hb))
  have HOg0 := Aside0.mk (R_ivw (a := w3.heap.size) (b := w.heap.size) ho (below_size (by repeat (first | (with_reducible first | exact Below.refl _ _ | apply below_alloc | apply pw_below_drewN | apply below_drew1) | exact Below.refl _ _))) (below_size (by repeat (first | (with_reducible first | exact HB3.out | apply below_alloc | apply pw_below_drewN | apply below_drew1) | exact HB3.out))))
  obtain ⟨Arg0, crg0, erg0⟩ := Kd.R_slice HOg0.out
  subst erg0
  clear ho hb
  go_wp2_with fail
  refine (laws_eqClaimS.calls kX1 _ _ (multA L0 a1).1 _ _ (multA L0 a1).1 true _ (by repeat (first | exact (Kd.R_reads' HOg0.out).2.2 | (with_reducible refine Kd.C_alloc ?_ _) | (with_reducible refine Kd.C_drewN ?_ _) | (with_reducible refine Kd.C_drew ?_))) (Kd.R_reads' HOg0.out).2.1 (by repeat (first | exact (Kd.R_reads' HOw0.out).2.2 | (with_reducible refine Kd.C_alloc ?_ _) | (with_reducible refine Kd.C_drewN ?_ _) | (with_reducible refine Kd.C_drew ?_))) (Kd.R_reads' HOw0.out).2.1 X1.out).mono ?_
  rintro e w5 ⟨rfl, hb⟩
  have n_ := Aside0.mk (Kd.R_below (by (with_reducible repeat (first | apply Kd.R_alloc | apply Kd.R_drewN | apply Kd.R_drew)); exact HOw0.out) hb); clear HOw0; have HOw0 := n_; clear n_
  have n_ := Aside0.mk (Kd.R_below (by (with_reducible repeat (first | apply Kd.R_alloc | apply Kd.R_drewN | apply Kd.R_drew)); exact HOx0.out) hb); clear HOx0; have HOx0 := n_; clear n_
  have n_ := Aside0.mk (Kd.R_below (by (with_reducible repeat (first | apply Kd.R_alloc | apply Kd.R_drewN | apply Kd.R_drew)); exact HOg0.out) hb); clear HOg0; have HOg0 := n_; clear n_
  have HB5 := Aside0.mk (below_step (by repeat (first | (with_reducible first | exact HB4.out | apply below_alloc | apply pw_below_drewN | apply below_drew1) | exact HB4.out)) hb)
  have SZ5 := Aside0.mk (show w4.heap.size ≤ w5.heap.size from below_size (below_step (by repeat (first | (with_reducible first | exact Below.refl _ _ | apply below_alloc | apply pw_below_drewN | apply below_drew1) | exact Below.refl _ _)) hb))
  clear hb
  go_wp2_with fail
  refine (laws_toClaimS.calls kX0 _ _ l0 _ _ (by repeat (first | exact (Kd.C_below HR0.out HB5.out) | (with_reducible refine Kd.C_alloc ?_ _) | (with_reducible refine Kd.C_drewN ?_ _) | (with_reducible refine Kd.C_drew ?_))) HC0.out X0.out).mono ?_
  rintro e w6 ⟨v, rfl, ho, hb⟩
  have n_ := Aside0.mk (Kd.R_below (by (with_reducible repeat (first | apply Kd.R_alloc | apply Kd.R_drewN | apply Kd.R_drew)); exact HOw0.out) hb); clear HOw0; have HOw0 := n_; clear n_
  have n_ := Aside0.mk (Kd.R_below (by (with_reducible repeat (first | apply Kd.R_alloc | apply Kd.R_drewN | apply Kd.R_drew)); exact HOx0.out) hb); clear HOx0; have HOx0 := n_; clear n_
  have n_ := Aside0.mk (Kd.R_below (by (with_reducible repeat (first | apply Kd.R_alloc | apply Kd.R_drewN | apply Kd.R_drew)); exact HOg0.out) hb); clear HOg0; have HOg0 := n_; clear n_
  have HB6 := Aside0.mk (below_step (by repeat (first | (with_reducible first | exact HB5.out | apply below_alloc | apply pw_below_drewN | apply below_drew1) | exact HB5.out)) hb)
  have SZ6 := Aside0.mk (show w5.heap.size ≤ w6.heap.size from below_size (below_step (by repeat (first | (with_reducible first | exact Below.refl _ _ | apply below_alloc | apply pw_below_drewN | apply below_drew1) | exact Below.refl _ _)) hb))
  have HOt2 := Aside0.mk (R_ivw (a := w5.heap.size) (b := w.heap.size) ho (below_size (by repeat (first | (with_reducible first | exact Below.refl _ _ | apply below_alloc | apply pw_below_drewN | apply below_drew1) | exact Below.refl _ _))) (below_size (by repeat (first | (with_reducible first | exact HB5.out | apply below_alloc | apply pw_below_drewN | apply below_drew1) | exact HB5.out))))
  obtain ⟨Art2, crt2, ert2⟩ := Kd.R_slice HOt2.out
  subst ert2
  clear ho hb
  go_wp2_with fail
  refine (laws_eqClaimS.calls kX2 _ _ L0 _ _ L0 true _ (by repeat (first | exact (Kd.R_reads' HOx0.out).2.2 | (with_reducible refine Kd.C_alloc ?_ _) | (with_reducible refine Kd.C_drewN ?_ _) | (with_reducible refine Kd.C_drew ?_))) (Kd.R_reads' HOx0.out).2.1 (by repeat (first | exact (Kd.R_reads' HOt2.out).2.2 | (with_reducible refine Kd.C_alloc ?_ _) | (with_reducible refine Kd.C_drewN ?_ _) | (with_reducible refine Kd.C_drew ?_))) (Kd.R_reads' HOt2.out).2.1 X2.out).mono ?_
  rintro e w7 ⟨rfl, hb⟩
  have n_ := Aside0.mk (Kd.R_below (by (with_reducible repeat (first | apply Kd.R_alloc | apply Kd.R_drewN | apply Kd.R_drew)); exact HOw0.out) hb); clear HOw0; have HOw0 := n_; clear n_
  have n_ := Aside0.mk (Kd.R_below (by (with_reducible repeat (first | apply Kd.R_alloc | apply Kd.R_drewN | apply Kd.R_drew)); exact HOx0.out) hb); clear HOx0; have HOx0 := n_; clear n_
  have n_ := Aside0.mk (Kd.R_below (by (with_reducible repeat (first | apply Kd.R_alloc | apply Kd.R_drewN | apply Kd.R_drew)); exact HOg0.out) hb); clear HOg0; have HOg0 := n_; clear n_
  have n_ := Aside0.mk (Kd.R_below (by (with_reducible repeat (first | apply Kd.R_alloc | apply Kd.R_drewN | apply Kd.R_drew)); exact HOt2.out) hb); clear HOt2; have HOt2 := n_; clear n_
  have HB7 := Aside0.mk (below_step (by repeat (first | (with_reducible first | exact HB6.out | apply below_alloc | apply pw_below_drewN | apply below_drew1) | exact HB6.out)) hb)
  have SZ7 := Aside0.mk (show w6.heap.size ≤ w7.heap.size from below_size (below_step (by repeat (first | (with_reducible first | exact Below.refl _ _ | apply below_alloc | apply pw_below_drewN | apply below_drew1) | exact Below.refl _ _)) hb))
  clear hb
  go_wp2_with fail
  refine (laws_markClaimS.calls kX3 (Iv w2.heap.size w3.heap.size) _ L0 1 _ _ w _ (by repeat (first | (with_reducible first | exact HB7.out | apply below_alloc | apply pw_below_drewN | apply below_drew1) | exact HB7.out)) (by (with_reducible repeat (first | apply Kd.R_alloc | apply Kd.R_drewN | apply Kd.R_drew)); exact HOx0.out) X3.out).mono ?_
  rintro e w8 ⟨rfl, ho, hb, hk⟩
  have n_ := Aside0.mk (Kd.R_kept (by (with_reducible repeat (first | apply Kd.R_alloc | apply Kd.R_drewN | apply Kd.R_drew)); exact HOw0.out) hk (fun k h1_ h2_ => by have a_ := h1_.1; have b_ := h1_.2; have c_ := h2_.1; have d_ := h2_.2; have SZ1_ := SZ1.out; have SZ2_ := SZ2.out; have SZ3_ := SZ3.out; have SZ4_ := SZ4.out; have SZ5_ := SZ5.out; have SZ6_ := SZ6.out; have SZ7_ := SZ7.out; omega)); clear HOw0; have HOw0 := n_; clear n_
  have n_ := Aside0.mk (Kd.R_kept (by (with_reducible repeat (first | apply Kd.R_alloc | apply Kd.R_drewN | apply Kd.R_drew)); exact HOg0.out) hk (fun k h1_ h2_ => by have a_ := h1_.1; have b_ := h1_.2; have c_ := h2_.1; have d_ := h2_.2; have SZ1_ := SZ1.out; have SZ2_ := SZ2.out; have SZ3_ := SZ3.out; have SZ4_ := SZ4.out; have SZ5_ := SZ5.out; have SZ6_ := SZ6.out; have SZ7_ := SZ7.out; omega)); clear HOg0; have HOg0 := n_; clear n_
  have HB8 := Aside0.mk hb
  have SZ8 := Aside0.mk (show w7.heap.size ≤ w8.heap.size from hk.1)
  have n_ := Aside0.mk (R_flat flat_Claim ho HOx0.out.1); clear HOx0; have HOx0 := n_; clear n_
  clear ho hb hk
  go_wp2_with fail
  refine (laws_eqClaimS.calls kX1 _ _ (multA L0 a1).1 _ _ (multA L0 a1).1 true _ (by repeat (first | exact (Kd.R_reads' HOg0.out).2.2 | (with_reducible refine Kd.C_alloc ?_ _) | (with_reducible refine Kd.C_drewN ?_ _) | (with_reducible refine Kd.C_drew ?_))) (Kd.R_reads' HOg0.out).2.1 (by repeat (first | exact (Kd.R_reads' HOw0.out).2.2 | (with_reducible refine Kd.C_alloc ?_ _) | (with_reducible refine Kd.C_drewN ?_ _) | (with_reducible refine Kd.C_drew ?_))) (Kd.R_reads' HOw0.out).2.1 X1.out).mono ?_
  rintro e w9 ⟨rfl, hb⟩
  have n_ := Aside0.mk (Kd.R_below (by (with_reducible repeat (first | apply Kd.R_alloc | apply Kd.R_drewN | apply Kd.R_drew)); exact HOw0.out) hb); clear HOw0; have HOw0 := n_; clear n_
  have n_ := Aside0.mk (Kd.R_below (by (with_reducible repeat (first | apply Kd.R_alloc | apply Kd.R_drewN | apply Kd.R_drew)); exact HOx0.out) hb); clear HOx0; have HOx0 := n_; clear n_
  have n_ := Aside0.mk (Kd.R_below (by (with_reducible repeat (first | apply Kd.R_alloc | apply Kd.R_drewN | apply Kd.R_drew)); exact HOg0.out) hb); clear HOg0; have HOg0 := n_; clear n_
  have HB9 := Aside0.mk (below_step (by repeat (first | (with_reducible first | exact HB8.out | apply below_alloc | apply pw_below_drewN | apply below_drew1) | exact HB8.out)) hb)
  have SZ9 := Aside0.mk (show w8.heap.size ≤ w9.heap.size from below_size (below_step (by repeat (first | (with_reducible first | exact Below.refl _ _ | apply below_alloc | apply pw_below_drewN | apply below_drew1) | exact Below.refl _ _)) hb))
  clear hb
  go_wp2_with fail
  refine (laws_markClaimS.calls kX4 (Iv w3.heap.size w4.heap.size) _ (multA L0 a1).1 1 _ _ w _ (by repeat (first | (with_reducible first | exact HB9.out | apply below_alloc | apply pw_below_drewN | apply below_drew1) | exact HB9.out)) (by (with_reducible repeat (first | apply Kd.R_alloc | apply Kd.R_drewN | apply Kd.R_drew)); exact HOg0.out) X4.out).mono ?_
  rintro e w10 ⟨rfl, ho, hb, hk⟩
  have n_ := Aside0.mk (Kd.R_kept (by (with_reducible repeat (first | apply Kd.R_alloc | apply Kd.R_drewN | apply Kd.R_drew)); exact HOw0.out) hk (fun k h1_ h2_ => by have a_ := h1_.1; have b_ := h1_.2; have c_ := h2_.1; have d_ := h2_.2; have SZ1_ := SZ1.out; have SZ2_ := SZ2.out; have SZ3_ := SZ3.out; have SZ4_ := SZ4.out; have SZ5_ := SZ5.out; have SZ6_ := SZ6.out; have SZ7_ := SZ7.out; have SZ8_ := SZ8.out; have SZ9_ := SZ9.out; omega)); clear HOw0; have HOw0 := n_; clear n_
  have n_ := Aside0.mk (Kd.R_kept (by (with_reducible repeat (first | apply Kd.R_alloc | apply Kd.R_drewN | apply Kd.R_drew)); exact HOx0.out) hk (fun k h1_ h2_ => by have a_ := h1_.1; have b_ := h1_.2; have c_ := h2_.1; have d_ := h2_.2; have SZ1_ := SZ1.out; have SZ2_ := SZ2.out; have SZ3_ := SZ3.out; have SZ4_ := SZ4.out; have SZ5_ := SZ5.out; have SZ6_ := SZ6.out; have SZ7_ := SZ7.out; have SZ8_ := SZ8.out; have SZ9_ := SZ9.out; omega)); clear HOx0; have HOx0 := n_; clear n_
  have HB10 := Aside0.mk hb
  have SZ10 := Aside0.mk (show w9.heap.size ≤ w10.heap.size from hk.1)
  have n_ := Aside0.mk (R_flat flat_Claim ho HOg0.out.1); clear HOg0; have HOg0 := n_; clear n_
  clear ho hb hk
  go_wp2_with fail
  refine calls_of_args (args' := #[.slice Arg0 UX4.length crg0, .int .i64 1]) (by rw [VX4.out]) ?_
  refine (laws_heldClaimS.calls kX5 _ _ UX4 1 _ _ (by repeat (first | exact (Kd.R_reads' HOg0.out).2.2 | (with_reducible refine Kd.C_alloc ?_ _) | (with_reducible refine Kd.C_drewN ?_ _) | (with_reducible refine Kd.C_drew ?_))) (by rw [VX4.out]; exact (Kd.R_reads' HOg0.out).2.1) X5.out).mono ?_
  rintro e w11 ⟨rfl, hb0⟩
  have hb := Drawn0.below hb0
  clear hb0
  have n_ := Aside0.mk (Kd.R_below (by (with_reducible repeat (first | apply Kd.R_alloc | apply Kd.R_drewN | apply Kd.R_drew)); exact HOw0.out) hb); clear HOw0; have HOw0 := n_; clear n_
  have n_ := Aside0.mk (Kd.R_below (by (with_reducible repeat (first | apply Kd.R_alloc | apply Kd.R_drewN | apply Kd.R_drew)); exact HOx0.out) hb); clear HOx0; have HOx0 := n_; clear n_
  have n_ := Aside0.mk (Kd.R_below (by (with_reducible repeat (first | apply Kd.R_alloc | apply Kd.R_drewN | apply Kd.R_drew)); exact HOg0.out) hb); clear HOg0; have HOg0 := n_; clear n_
  have HB11 := Aside0.mk (below_step (by repeat (first | (with_reducible first | exact HB10.out | apply below_alloc | apply pw_below_drewN | apply below_drew1) | exact HB10.out)) hb)
  have SZ11 := Aside0.mk (show w10.heap.size ≤ w11.heap.size from below_size (below_step (by repeat (first | (with_reducible first | exact Below.refl _ _ | apply below_alloc | apply pw_below_drewN | apply below_drew1) | exact Below.refl _ _)) hb))
  clear hb
  go_wp2_with fail
  refine (laws_toClaimS.calls kX0 _ _ l0 _ _ (by repeat (first | exact (Kd.C_below HR0.out HB11.out) | (with_reducible refine Kd.C_alloc ?_ _) | (with_reducible refine Kd.C_drewN ?_ _) | (with_reducible refine Kd.C_drew ?_))) HC0.out X0.out).mono ?_
  rintro e w12 ⟨v, rfl, ho, hb⟩
  have n_ := Aside0.mk (Kd.R_below (by (with_reducible repeat (first | apply Kd.R_alloc | apply Kd.R_drewN | apply Kd.R_drew)); exact HOw0.out) hb); clear HOw0; have HOw0 := n_; clear n_
  have n_ := Aside0.mk (Kd.R_below (by (with_reducible repeat (first | apply Kd.R_alloc | apply Kd.R_drewN | apply Kd.R_drew)); exact HOx0.out) hb); clear HOx0; have HOx0 := n_; clear n_
  have n_ := Aside0.mk (Kd.R_below (by (with_reducible repeat (first | apply Kd.R_alloc | apply Kd.R_drewN | apply Kd.R_drew)); exact HOg0.out) hb); clear HOg0; have HOg0 := n_; clear n_
  have HB12 := Aside0.mk (below_step (by repeat (first | (with_reducible first | exact HB11.out | apply below_alloc | apply pw_below_drewN | apply below_drew1) | exact HB11.out)) hb)
  have SZ12 := Aside0.mk (show w11.heap.size ≤ w12.heap.size from below_size (below_step (by repeat (first | (with_reducible first | exact Below.refl _ _ | apply below_alloc | apply pw_below_drewN | apply below_drew1) | exact Below.refl _ _)) hb))
  have HOt3 := Aside0.mk (R_ivw (a := w11.heap.size) (b := w.heap.size) ho (below_size (by repeat (first | (with_reducible first | exact Below.refl _ _ | apply below_alloc | apply pw_below_drewN | apply below_drew1) | exact Below.refl _ _))) (below_size (by repeat (first | (with_reducible first | exact HB11.out | apply below_alloc | apply pw_below_drewN | apply below_drew1) | exact HB11.out))))
  obtain ⟨Art3, crt3, ert3⟩ := Kd.R_slice HOt3.out
  subst ert3
  clear ho hb
  go_wp2_with fail
  refine (impl_c _ _ L0 a1 _ (by repeat (first | exact (Kd.R_reads' HOt3.out).2.2 | (with_reducible refine Kd.C_alloc ?_ _) | (with_reducible refine Kd.C_drewN ?_ _) | (with_reducible refine Kd.C_drew ?_))) (Kd.R_reads' HOt3.out).2.1 (fun hp => R_head HOt3.out hp) hv0 ).mono ?_
  rintro e w13 ⟨v, rfl, ho, hb⟩
  have n_ := Aside0.mk (Kd.R_below (by (with_reducible repeat (first | apply Kd.R_alloc | apply Kd.R_drewN | apply Kd.R_drew)); exact HOw0.out) hb); clear HOw0; have HOw0 := n_; clear n_
  have n_ := Aside0.mk (Kd.R_below (by (with_reducible repeat (first | apply Kd.R_alloc | apply Kd.R_drewN | apply Kd.R_drew)); exact HOx0.out) hb); clear HOx0; have HOx0 := n_; clear n_
  have n_ := Aside0.mk (Kd.R_below (by (with_reducible repeat (first | apply Kd.R_alloc | apply Kd.R_drewN | apply Kd.R_drew)); exact HOg0.out) hb); clear HOg0; have HOg0 := n_; clear n_
  have n_ := Aside0.mk (Kd.R_below (by (with_reducible repeat (first | apply Kd.R_alloc | apply Kd.R_drewN | apply Kd.R_drew)); exact HOt3.out) hb); clear HOt3; have HOt3 := n_; clear n_
  have HB13 := Aside0.mk (below_step (by repeat (first | (with_reducible first | exact HB12.out | apply below_alloc | apply pw_below_drewN | apply below_drew1) | exact HB12.out)) hb)
  have SZ13 := Aside0.mk (show w12.heap.size ≤ w13.heap.size from below_size (below_step (by repeat (first | (with_reducible first | exact Below.refl _ _ | apply below_alloc | apply pw_below_drewN | apply below_drew1) | exact Below.refl _ _)) hb))
  have HOh0 := Aside0.mk (R_ivw (a := w12.heap.size) (b := w.heap.size) ho (below_size (by repeat (first | (with_reducible first | exact Below.refl _ _ | apply below_alloc | apply pw_below_drewN | apply below_drew1) | exact Below.refl _ _))) (below_size (by repeat (first | (with_reducible first | exact HB12.out | apply below_alloc | apply pw_below_drewN | apply below_drew1) | exact HB12.out))))
  obtain ⟨Arh0, crh0, erh0⟩ := Kd.R_slice HOh0.out
  subst erh0
  clear ho hb
  go_wp2_with fail
  refine (laws_eqClaimS.calls kX1 _ _ (multA L0 a1).1 _ _ (multA L0 a1).1 true _ (by repeat (first | exact (Kd.R_reads' HOh0.out).2.2 | (with_reducible refine Kd.C_alloc ?_ _) | (with_reducible refine Kd.C_drewN ?_ _) | (with_reducible refine Kd.C_drew ?_))) (Kd.R_reads' HOh0.out).2.1 (by repeat (first | exact (Kd.R_reads' HOw0.out).2.2 | (with_reducible refine Kd.C_alloc ?_ _) | (with_reducible refine Kd.C_drewN ?_ _) | (with_reducible refine Kd.C_drew ?_))) (Kd.R_reads' HOw0.out).2.1 X1.out).mono ?_
  rintro e w14 ⟨rfl, hb⟩
  have n_ := Aside0.mk (Kd.R_below (by (with_reducible repeat (first | apply Kd.R_alloc | apply Kd.R_drewN | apply Kd.R_drew)); exact HOw0.out) hb); clear HOw0; have HOw0 := n_; clear n_
  have n_ := Aside0.mk (Kd.R_below (by (with_reducible repeat (first | apply Kd.R_alloc | apply Kd.R_drewN | apply Kd.R_drew)); exact HOx0.out) hb); clear HOx0; have HOx0 := n_; clear n_
  have n_ := Aside0.mk (Kd.R_below (by (with_reducible repeat (first | apply Kd.R_alloc | apply Kd.R_drewN | apply Kd.R_drew)); exact HOg0.out) hb); clear HOg0; have HOg0 := n_; clear n_
  have n_ := Aside0.mk (Kd.R_below (by (with_reducible repeat (first | apply Kd.R_alloc | apply Kd.R_drewN | apply Kd.R_drew)); exact HOh0.out) hb); clear HOh0; have HOh0 := n_; clear n_
  have HB14 := Aside0.mk (below_step (by repeat (first | (with_reducible first | exact HB13.out | apply below_alloc | apply pw_below_drewN | apply below_drew1) | exact HB13.out)) hb)
  have SZ14 := Aside0.mk (show w13.heap.size ≤ w14.heap.size from below_size (below_step (by repeat (first | (with_reducible first | exact Below.refl _ _ | apply below_alloc | apply pw_below_drewN | apply below_drew1) | exact Below.refl _ _)) hb))
  clear hb
  go_wp2_with fail
  refine calls_of_args (args' := #[.slice Arg0 UX4.length crg0, .int .i64 1]) (by rw [VX4.out]) ?_
  refine (laws_heldClaimS.calls kX5 _ _ UX4 1 _ _ (by repeat (first | exact (Kd.R_reads' HOg0.out).2.2 | (with_reducible refine Kd.C_alloc ?_ _) | (with_reducible refine Kd.C_drewN ?_ _) | (with_reducible refine Kd.C_drew ?_))) (by rw [VX4.out]; exact (Kd.R_reads' HOg0.out).2.1) X5.out).mono ?_
  rintro e w15 ⟨rfl, hb0⟩
  have hb := Drawn0.below hb0
  clear hb0
  have n_ := Aside0.mk (Kd.R_below (by (with_reducible repeat (first | apply Kd.R_alloc | apply Kd.R_drewN | apply Kd.R_drew)); exact HOw0.out) hb); clear HOw0; have HOw0 := n_; clear n_
  have n_ := Aside0.mk (Kd.R_below (by (with_reducible repeat (first | apply Kd.R_alloc | apply Kd.R_drewN | apply Kd.R_drew)); exact HOx0.out) hb); clear HOx0; have HOx0 := n_; clear n_
  have n_ := Aside0.mk (Kd.R_below (by (with_reducible repeat (first | apply Kd.R_alloc | apply Kd.R_drewN | apply Kd.R_drew)); exact HOg0.out) hb); clear HOg0; have HOg0 := n_; clear n_
  have n_ := Aside0.mk (Kd.R_below (by (with_reducible repeat (first | apply Kd.R_alloc | apply Kd.R_drewN | apply Kd.R_drew)); exact HOh0.out) hb); clear HOh0; have HOh0 := n_; clear n_
  have HB15 := Aside0.mk (below_step (by repeat (first | (with_reducible first | exact HB14.out | apply below_alloc | apply pw_below_drewN | apply below_drew1) | exact HB14.out)) hb)
  have SZ15 := Aside0.mk (show w14.heap.size ≤ w15.heap.size from below_size (below_step (by repeat (first | (with_reducible first | exact Below.refl _ _ | apply below_alloc | apply pw_below_drewN | apply below_drew1) | exact Below.refl _ _)) hb))
  clear hb
  go_wp2
  go_ret
  exact ⟨rfl, (by repeat (first | (with_reducible first | exact HB15.out | apply below_alloc | apply pw_below_drewN | apply below_drew1) | exact HB15.out))⟩
end Go.Proofs.Ytaobdjdmmhglaaa.O
