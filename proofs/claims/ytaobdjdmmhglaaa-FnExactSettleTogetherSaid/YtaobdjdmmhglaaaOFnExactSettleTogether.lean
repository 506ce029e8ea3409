/- Walks of our own for the law FnExactSettleTogether: each function's contract in plain Lean. No condition beyond the bounds that each contract names. -/
import Derived.Test.YtaobdjdmmhglaaaPureFnExactSettleTogether
import Derived.Shelf.Slices.Clone
import Derived.Shelf.SlicesE.IndexFunc
import Derived.Shelf.Slices.Turned
import Derived.Shelf.Lays2
import Derived.Shelf.SlLaysH
import Derived.Shelf.Lays
namespace Go.Proofs.Ytaobdjdmmhglaaa.O
open Go.RowKit Go.Proofs.YtaobdjdmmhglaaaW.PrintWords Go.Proofs.YtaobdjdmmhglaaaW.PrintLast Go.Proofs.YtaobdjdmmhglaaaW.PrintMore Go.Proofs.Ytaobdjdmmhglaaa.PFnExactSettleInOrder Go.Proofs.Ytaobdjdmmhglaaa.EvKit Go.Proofs.Ytaobdjdmmhglaaa.Pure
set_option linter.unusedVariables false
set_option linter.unusedSimpArgs false
attribute [local go_sem] max2_int min2_int max_two min_two max_three min_three max_four min_four
/-- A number of rounds at which a printed function answers. -/
theorem roundsOf {α : Type} {g : Nat → Option α} {r : α} (h : Ev g r) : ∃ k, g k = some r := Ev.rounds h
theorem cellsOf {w : World} {b o : Nat} {xs : List Int} (h : (Kd.int .i64).C w (some ⟨b, o, none⟩) xs.length xs) : ∀ j, j < xs.length → w.cell? ⟨b, o + j, none⟩ = some (.int .i64 xs[j]!) := by
  intro j hj
  obtain ⟨ad, e, hc⟩ := Kd.at_int h (j : Int) (by omega) (by omega)
  injection e with e
  subst e
  rw [add_at] at hc
  rw [Int.toNat_natCast] at hc
  rw [hc, rd, Int.toNat_natCast, List.getD_eq_getElem?_getD, List.getElem?_eq_getElem hj, List.getElem!_eq_getElem?_getD, List.getElem?_eq_getElem hj]
  rfl
/-- Between two numbers. -/
def Iv (a b : Nat) (k : Nat) : Prop := a ≤ k ∧ k < b
theorem R_iv {α : Type} {d : Kd α} {e base : Nat} {ok : Nat → Prop} {w : World} {v : Value} {xs : List α} (h : d.R e w base ok v xs) : d.R e w base (Iv base w.heap.size) v xs := Kd.R_mono (Kd.R_bound h) (fun _ hk => ⟨hk.2.1, hk.2.2.1⟩)
/-- Where a row of one's own that is not empty begins. -/
theorem R_head {α : Type} {d : Kd α} {e base : Nat} {ok : Nat → Prop} {w : World} {A : Option Addr} {n c : Nat} {xs : List α} (h : d.R e w base ok (.slice A n c) xs) (hp : 0 < xs.length) : ∃ b, A = some ⟨b, 0, none⟩ := by
  obtain ⟨g, cap, e1, _⟩ := Kd.R_form h hp
  injection e1 with e1
  exact ⟨g, e1⟩
theorem R_ivw {α : Type} {d : Kd α} {e base a b : Nat} {ok : Nat → Prop} {w : World} {v : Value} {xs : List α} (h : d.R e w base ok v xs) (ha : a ≤ base) (hb : b ≤ base) : d.R e w b (Iv a w.heap.size) v xs := Kd.R_lower (Kd.R_mono (Kd.R_bound h) (fun _ hk => ⟨Nat.le_trans ha hk.2.1, hk.2.2.1⟩)) hb
/-- A row whose elements hold no rows lies in its own block alone. -/
theorem R_flat {α : Type} {d : Kd α} {e base : Nat} {ok ok' : Nat → Prop} {w : World} {v : Value} {xs : List α} (hf : ∀ (w : World) (b : Nat) (p q : Nat → Prop) x cs, d.M w b p x cs → d.M w b q x cs) (h : d.R e w base ok v xs) (h0 : ∀ k, v.ownBlock = some k → ok' k) : d.R e w base ok' v xs := ⟨h0, h.2.imp_ (fun _ _ hp => hf _ _ _ _ _ _ hp)⟩
theorem flat_int (w : World) (b : Nat) (p q : Nat → Prop) (x : Int) (cs : List Value) (h : (Kd.int .i64).M w b p x cs) : (Kd.int .i64).M w b q x cs := h
theorem cellsOfD {w : World} {b o m : Nat} {xs : List Int} (h : (Kd.int .i64).C w (some ⟨b, o, none⟩) m xs) : ∀ j, j < xs.length → w.cell? ⟨b, o + j, none⟩ = some (.int .i64 (xs.getD j 0)) := by
  intro j hj
  have hl := Kd.C_len h
  obtain ⟨ad, e, hc⟩ := Kd.at_int h (j : Int) (by omega) (by omega)
  injection e with e
  subst e
  rw [add_at, Int.toNat_natCast] at hc
  exact hc
theorem R_C {α : Type} {d : Kd α} {e base : Nat} {ok : Nat → Prop} {w : World} {A : Option Addr} {n c : Nat} {xs : List α} (h : d.R e w base ok (.slice A n c) xs) : d.C w A n xs := by
  obtain ⟨rfl, _, hc⟩ := Kd.R_reads' h
  exact hc
theorem R_cap {α : Type} {d : Kd α} {e base : Nat} {ok : Nat → Prop} {w : World} {A : Option Addr} {n c : Nat} {xs : List α} (h : d.R e w base ok (.slice A n c) xs) : n ≤ c := (Kd.R_reads' h).2.1
theorem R_same {α : Type} {d : Kd α} {e base : Nat} {ok : Nat → Prop} {w w1 : World} {v : Value} {xs : List α} (h : d.R e w base ok v xs) (hg : w.grownBy w1 none) : d.R e w1 base ok v xs := Kd.R_grown h hg (fun _ _ e => by cases e)
theorem R_block {α : Type} {d : Kd α} {e base g n c : Nat} {ok : Nat → Prop} {w : World} {xs : List α} (h : d.R e w base ok (.slice (some ⟨g, 0, none⟩) n c) xs) (hp : 0 < n) : ∃ cells, w.heap[g]? = some (.cells cells e (0, 0)) := by
  obtain ⟨e1, _, _⟩ := Kd.R_reads' h
  obtain ⟨g', cap, e2, _, _, cells, h3⟩ := Kd.R_form h (by omega)
  injection e2 with e2 _ _
  injection e2 with e2
  injection e2 with e2
  subst e2
  exact ⟨cells, h3⟩
theorem infoI : (Try.prog.info? 3).map (fun i => (i.zero, i.size, i.bytes)) = some (some (.int .i64 0), 1, 8) := by kernel_rfl
theorem infoC : (Try.prog.info? 54).map (fun i => (i.zero, i.size, i.bytes)) = some (some (.agg #[(.int .i64 0), (.int .i64 0), (.int .i64 0)]), 3, 24) := by kernel_rfl
/-- A bit as the walk has it. -/
theorem all_succ (p : Nat → Prop) [DecidablePred p] (i : Nat) : decide (∀ j, j < i + 1 → p j) = (decide (∀ j, j < i → p j) && decide (p i)) := by
  rw [Bool.eq_iff_iff, Bool.and_eq_true, decide_eq_true_iff, decide_eq_true_iff, decide_eq_true_iff]
  refine ⟨fun h => ⟨fun j hj => h j (by omega), h i (by omega)⟩, fun h j hj => ?_⟩
  rcases Nat.lt_or_ge j i with q | q
  · exact h.1 j q
  · obtain rfl : j = i := by omega
    exact h.2
theorem bit_q (v i : Nat) (hv : v < 1048576) : Go.bits .and .i64 ((v : Int) / 2 ^ i) 1 = ((v / 2 ^ i % 2 : Nat) : Int) := by
  have e : (v : Int) / 2 ^ i = ((v / 2 ^ i : Nat) : Int) := by simp
  rw [e]
  have h := Nat.div_le_self v (2 ^ i)
  generalize v / 2 ^ i = q at h ⊢
  rw [i64_and1 _ (by omega) (by omega)]
  omega
theorem bit_one {v i : Nat} (hv : v < 1048576) (h : v / 2 ^ i % 2 = 1) : Go.bits .and .i64 ((v : Int) / 2 ^ i) 1 = 1 := by rw [bit_q v i hv, h]; rfl
theorem bit_zero {v i : Nat} (hv : v < 1048576) (h : ¬ v / 2 ^ i % 2 = 1) : Go.bits .and .i64 ((v : Int) / 2 ^ i) 1 = 0 := by rw [bit_q v i hv, show v / 2 ^ i % 2 = 0 from by omega]; rfl
set_option maxHeartbeats 8000000 in
set_option maxRecDepth 100000 in
theorem set_c (A0 : Option Addr) (c0 : Nat) (xs : List S54) (v : Nat) (w : World) (hr0 : Kd.C k54 w A0 xs.length xs) (hc0 : xs.length ≤ c0) (hn : xs.length ≤ 20) (hv : v < 1048576) :
    Calls Try.prog 66 #[.slice A0 xs.length c0, .int .i64 v] w fun e w' => ∃ v', e = .returned v' ∧ Kd.R k54 54 w' w.heap.size (fun _ => True) v' (pickF xs v) ∧ Below w.heap.size w w' := by
  have HR0 := Aside0.mk hr0
  have HC0 := Aside0.mk hc0
  clear hr0 hc0
  go_enter Try.func66, Try.ntmps66
  go_wp2_with ((with_reducible refine gate_dst (N := 7) rfl ?_); refine Kd.R_lit k54 w.heap.size 54 (w0 := w) ?hg (N := 7) ?hd (xs := []) (inner := []) (ok := fun _ => True) (okp := fun _ => True) ?hr ?hp (fun _ hk => hk) trivial (by repeat (first | (with_reducible first | exact (Below.refl w.heap.size w) | apply below_alloc | apply pw_below_drewN | apply below_drew1) | exact (Below.refl w.heap.size w))) (below_size (by repeat (first | (with_reducible first | exact (Below.refl w.heap.size w) | apply below_alloc | apply pw_below_drewN | apply below_drew1) | exact (Below.refl w.heap.size w)))) (by simp) ?_; (case hd => rfl); (case hg => rfl); (case hr => first | (go_simp; done) | (go_simp; rfl)); (case hp => exact (Reps.none _ _)); intro v1 w1 ho hb hgr hnw)
  have HOUT := Aside0.mk ho
  have HB := Aside0.mk hb
  clear ho hb hgr hnw
  go_loopw [5, 6] (fun v5 v6 wr => ∃ (pre rest out : List S54), Aside0 (xs = pre ++ rest) ∧ v6 = .int .i64 pre.length ∧ Aside0 (out ++ pickF rest (v / 2 ^ pre.length) = pickF xs v) ∧ Aside0 (out.length ≤ pre.length) ∧ Aside0 (Kd.R k54 54 wr w.heap.size (fun _ => True) v5 out) ∧ Aside0 (Below w.heap.size w wr)) (fun _ v6 _ => xs.length - (intOf v6).toNat)
  case atStart => exact ⟨[], xs, [], ⟨rfl⟩, rfl, ⟨by simp⟩, ⟨by simp⟩, HOUT, HB⟩
  case round =>
    clear HOUT HB
    obtain ⟨pre, rest, out, HX, rfl, HP, HL, HOUT, HB⟩ := hrel
    cases rest with
    | nil =>
      have c : decide (pre.length < xs.length) = false := decide_eq_false (by have := len_nil HX.out; omega)
      go_wp2
      go_ret
      refine ⟨_, rfl, ?_, HB.out⟩
      rw [← HP.out, pickF, List.append_nil]
      exact HOUT.out
    | cons a t =>
      have hlt := len_cons HX.out
      have hpl : (pre.length : Int) < xs.length := by omega
      obtain ⟨ad, e0, hx0, hx1, hx2⟩ := at_T54 HR0.out (pre.length : Int) (by omega) hpl
      rw [rd_T54_at HX.out rfl] at hx0 hx1 hx2
      simp only [Int.toNat_natCast] at hx0 hx1 hx2
      cases e0
      replace hx0 := (HB.out.cell (World.block_lt_of_cell? w _ hx0)).trans hx0
      replace hx1 := (HB.out.cell (World.block_lt_of_cell? w _ hx1)).trans hx1
      replace hx2 := (HB.out.cell (World.block_lt_of_cell? w _ hx2)).trans hx2
      have c : decide (pre.length < xs.length) = true := decide_eq_true (by omega)
      have c' : pre.length < xs.length := by omega
      have hu : IntKind.u64.wrap (pre.length : Int) = (pre.length : Int) := u64_small _ (by omega) (by omega)
      have HSN := Aside0.mk (snoc HX.out)
      have hq : v / 2 ^ pre.length / 2 = v / 2 ^ (pre.length + 1) := (div_pow_succ v pre.length).symm
      have hol : out.length ≤ 20 := by have := HL.out; omega
      have hp := HP.out
      rw [pickF, hq] at hp
      clear hlt hq
      by_cases hb : v / 2 ^ pre.length % 2 = 1
      · have hbit := bit_one hv hb
        rw [if_pos hb, ← List.append_assoc] at hp
        have HP1 := Aside0.mk hp
        clear hp hb
        go_wp2_with ((with_reducible refine gate_builtin (b := .append) (xs := #[.tmp 20, .tmp 25]) rfl ?_); at_builtin; refine Kd.R_append k54 (w0 := w) w.heap.size rfl (.tmp 20) (.tmp 25) 25 54 (.agg #[(.int .i64 0), (.int .i64 0), (.int .i64 0)]) 24 rfl Try.underlying25 infoC rfl (by decide) (by omega) u5 out a [.int .i64 a.f0, .int .i64 a.f1, .int .i64 a.f2] (fun _ => True) (fun _ => False) rfl rfl ?aP (fun _ hk => hk.elim) ?aF ?aO ?aB ?aS ?aL ?_; (case aP => exact k54_mkM _ _ _ _); (case aB => exact (by repeat (first | (with_reducible first | exact HB.out | apply below_alloc | apply pw_below_drewN | apply below_drew1) | exact HB.out))); (case aF => exact (fun _ _ => trivial)); (case aO => exact (by (with_reducible repeat (first | apply Kd.R_alloc | apply Kd.R_drewN | apply Kd.R_drew)); exact HOUT.out)); (case aS => exact (below_size (by repeat (first | (with_reducible first | exact HB.out | apply below_alloc | apply pw_below_drewN | apply below_drew1) | exact HB.out)))); (case aL => omega); intro v1 w1 ho hb hg hat)
        go_roundw
        case rel => exact ⟨pre ++ [a], t, out ++ [a], HSN, by rw [len_snoc], ⟨by rw [List.length_append, List.length_singleton]; exact HP1.out⟩, ⟨by rw [List.length_append, List.length_append, List.length_singleton]; have := HL.out; simp; omega⟩, ⟨(by (with_reducible repeat (first | apply Kd.R_alloc | apply Kd.R_drewN | apply Kd.R_drew)); exact ho)⟩, ⟨(by repeat (first | (with_reducible first | exact hb | apply below_alloc | apply pw_below_drewN | apply below_drew1) | exact hb))⟩⟩
        case measure => simp [intOf]; omega
      · have hbit := bit_zero hv hb
        rw [if_neg hb, List.nil_append] at hp
        have HP1 := Aside0.mk hp
        clear hp hb
        go_wp2
        go_roundw
        case rel => exact ⟨pre ++ [a], t, out, HSN, by rw [len_snoc], ⟨by rw [List.length_append, List.length_singleton]; exact HP1.out⟩, ⟨by rw [List.length_append, List.length_singleton]; have := HL.out; omega⟩, ⟨(by (with_reducible repeat (first | apply Kd.R_alloc | apply Kd.R_drewN | apply Kd.R_drew)); exact HOUT.out)⟩, ⟨(by repeat (first | (with_reducible first | exact HB.out | apply below_alloc | apply pw_below_drewN | apply below_drew1) | exact HB.out))⟩⟩
        case measure => simp [intOf]; omega
set_option maxHeartbeats 4000000 in
set_option maxRecDepth 100000 in
theorem specPos_c (A0 : Option Addr) (c0 : Nat) (xs : List S54) (m : Nat) (w : World) (hr0 : Kd.C k54 w A0 xs.length xs) (hc0 : xs.length ≤ c0) (hm : 1 ≤ m ∧ m ≤ 8) (hn : xs.length ≤ 20) (hok : ∀ a ∈ xs, okC m a) :
    Calls Try.prog 50 #[.slice A0 xs.length c0, .int .i64 m] w fun e w' => ∃ v, e = .returned v ∧ (Kd.int .i64).R 3 w' w.heap.size (fun _ => True) v (posFold (List.replicate m 0) xs) ∧ Below w.heap.size w w' := by
  have HR0 := Aside0.mk hr0
  have HC0 := Aside0.mk hc0
  have HOK := Aside0.mk hok
  have m1 := hm.1
  have m2 := hm.2
  clear hr0 hc0 hok hm
  go_enter Try.func50, Try.ntmps50
  go_wp2_with ((with_reducible refine gate_dst (N := 8) rfl ?_); refine Kd.R_make (Kd.int .i64) w.heap.size 3 rfl (N := 8) rfl 31 _ _ rfl (m : Int) rfl rfl Try.underlying31 (.int .i64 0) 8 infoI rfl (by decide) (by omega) 0 (ok := fun _ => True) (okp := fun _ => True) rfl (fun _ hk => hk) trivial (by omega) (by omega) (by repeat (first | (with_reducible first | exact (Below.refl w.heap.size w) | apply below_alloc | apply pw_below_drewN | apply below_drew1) | exact (Below.refl w.heap.size w))) (below_size (by repeat (first | (with_reducible first | exact (Below.refl w.heap.size w) | apply below_alloc | apply pw_below_drewN | apply below_drew1) | exact (Below.refl w.heap.size w)))) ?_; intro v1 w1 ho hb _ _)
  rw [Int.toNat_natCast] at ho
  obtain ⟨g, cap, hv, hg1, hg2, cells, hg3⟩ := Kd.R_form ho (by rw [List.length_replicate]; omega)
  rw [List.length_replicate] at hv
  subst hv
  have HO := Aside0.mk ho
  have HB := Aside0.mk hb
  clear ho hb hg2 hg3 cells
  go_loopw [6] (fun v6 wr => ∃ (pre rest : List S54) (out : List Int), Aside0 (xs = pre ++ rest) ∧ v6 = .int .i64 pre.length ∧ Aside0 (out.length = m) ∧ Aside0 (posFold out rest = posFold (List.replicate m 0) xs) ∧ Aside0 ((Kd.int .i64).R 3 wr w.heap.size (fun _ => True) (.slice (some ⟨g, 0, none⟩) m cap) out) ∧ Aside0 (Below w.heap.size w wr)) (fun v6 _ => xs.length - (intOf v6).toNat)
  case atStart => exact ⟨[], xs, List.replicate m 0, ⟨rfl⟩, rfl, ⟨List.length_replicate⟩, ⟨rfl⟩, HO, HB⟩
  case round =>
    clear HO
    obtain ⟨pre, rest, out, HX, rfl, HL, HP, HO, HB⟩ := hrel
    cases rest with
    | nil =>
      have c : decide (pre.length < xs.length) = false := decide_eq_false (by have := len_nil HX.out; omega)
      go_wp2
      go_ret
      exact ⟨_, rfl, by rw [← HP.out]; exact HO.out, HB.out⟩
    | cons a t =>
      have hlt := len_cons HX.out
      have hpl : (pre.length : Int) < xs.length := by omega
      have ha := HOK.out a (by rw [HX.out]; simp)
      have p0 := ha.1.1
      have q0 : a.f0 < (m : Int) := by have := ha.1.2; omega
      have p1 := ha.2.1.1
      have q1 : a.f1 < (m : Int) := by have := ha.2.1.2; omega
      obtain ⟨ad, e0, hx0, hx1, hx2⟩ := at_T54 HR0.out (pre.length : Int) (by omega) hpl
      rw [rd_T54_at HX.out rfl] at hx0 hx1 hx2
      simp only [Int.toNat_natCast] at hx0 hx1 hx2
      cases e0
      have X0 := Aside0.mk hx0
      have X1 := Aside0.mk hx1
      have X2 := Aside0.mk hx2
      replace hx0 := (HB.out.cell (World.block_lt_of_cell? w _ hx0)).trans hx0
      replace hx1 := (HB.out.cell (World.block_lt_of_cell? w _ hx1)).trans hx1
      replace hx2 := (HB.out.cell (World.block_lt_of_cell? w _ hx2)).trans hx2
      have c : decide (pre.length < xs.length) = true := decide_eq_true (by omega)
      have c' : pre.length < xs.length := by omega
      clear hlt
      have hy : wr.cell? ⟨g, a.f0.toNat, none⟩ = some (.int .i64 (rd out a.f0)) := (Kd.R_celln 0 HO.out a.f0 p0 q0).1
      have hf := (Kd.R_celln 0 HO.out a.f0 p0 q0).2
      go_upto_region 5 with (fail)
      go_region
      clear hy hf hx0 hx1 hx2
      have HO1 := Aside0.mk (Kd.R_putn HO.out a.f0 (wrap64 (rd out a.f0 - a.f2)))
      have HB1 := Aside0.mk (below_set (j := a.f0.toNat) (v := .int .i64 (wrap64 (rd out a.f0 - a.f2))) HB.out hg1)
      generalize wr.setCell ⟨g, a.f0.toNat, none⟩ (.int .i64 (wrap64 (rd out a.f0 - a.f2))) = wr1 at HO1 HB1 ⊢
      have hx0 := (HB1.out.cell (World.block_lt_of_cell? w _ X0.out)).trans X0.out
      have hx1 := (HB1.out.cell (World.block_lt_of_cell? w _ X1.out)).trans X1.out
      have hx2 := (HB1.out.cell (World.block_lt_of_cell? w _ X2.out)).trans X2.out
      have hy : wr1.cell? ⟨g, a.f1.toNat, none⟩ = some (.int .i64 (rd (out.set a.f0.toNat (wrap64 (rd out a.f0 - a.f2))) a.f1)) := (Kd.R_celln 0 HO1.out a.f1 p1 q1).1
      have hf := (Kd.R_celln 0 HO1.out a.f1 p1 q1).2
      go_upto_region 6 with (fail)
      go_region
      clear hy hf hx0 hx1 hx2
      go_wp2
      go_roundw
      case rel => exact ⟨pre ++ [a], t, posStep out a, ⟨snoc HX.out⟩, by rw [len_snoc], ⟨by rw [posStep_length]; exact HL.out⟩, ⟨HP.out⟩, ⟨Kd.R_putn (by (with_reducible repeat (first | apply Kd.R_alloc | apply Kd.R_drewN | apply Kd.R_drew)); exact HO1.out) a.f1 _⟩, ⟨by repeat (first | exact HB1.out | apply below_alloc | apply pw_below_drewN | apply below_drew1 | refine below_set ?_ hg1)⟩⟩
      case measure => simp [intOf]; omega
def Lcl_ren : Go.Shelf.Ren := ⟨fun | 15 => 64 | n => n, fun | 3 => 3 | 4 => 4 | 22 => 31 | n => n, fun | n => n⟩
theorem Lcl : Go.Proofs.Lays2.n15 Try.prog Lcl_ren := {
  mixed := by kernel_rfl,
  f15 := Try.func64.trans (congrArg some (by kernel_rfl)),
  t3 := Try.underlying3,
  a3 := Try.isAgg3,
  z3 := Try.sizeOf3,
  v3 := Try.zeroValue3,
  t4 := Try.underlying4,
  a4 := Try.isAgg4,
  z4 := Try.sizeOf4,
  v4 := Try.zeroValue4,
  t22 := Try.underlying31,
  a22 := Try.isAgg31,
  z22 := Try.sizeOf31,
  v22 := Try.zeroValue31,
  i3 := by kernel_rfl }

/-- slices.Clone of whole numbers, not empty. -/
theorem cloneInt_c (b c : Nat) (xs : List Int) (w : World) (hr : (Kd.int .i64).C w (some ⟨b, 0, none⟩) xs.length xs) (hl : xs.length ≤ 1048576) :
    Calls Try.prog 64 #[.slice (some ⟨b, 0, none⟩) xs.length c] w fun e w' => ∃ v, e = .returned v ∧ (Kd.int .i64).R 3 w' w.heap.size (fun _ => True) v xs ∧ Below w.heap.size w w' :=
  (Any.slices_Clone_int Lcl b 0 xs.length c xs w (Nat.le_refl _) (by omega) (cellsOfD hr)).mono fun e w' ⟨v, he, ho, _, hb⟩ => ⟨v, he, Kd.R_of_own (by rw [List.take_length] at ho; exact ho) (fun _ _ => trivial), hb⟩
def Lcf_ren : Go.Shelf.Ren := ⟨fun | 6 => 80 | 8 => 73 | n => n, fun | 22 => 31 | 23 => 3 | 25 => 58 | n => n, fun | n => n⟩
theorem Lcf : Go.Proofs.SlLaysH.n8 Try.prog Lcf_ren := {
  mixed := by kernel_rfl,
  f6 := ⟨Try.f80.name, by decide, Try.func80.trans (congrArg some (by kernel_rfl))⟩,
  f8 := ⟨Try.f73.name, by decide, Try.func73.trans (congrArg some (by kernel_rfl))⟩,
  t0 := Try.underlying0,
  a0 := Try.isAgg0,
  z0 := Try.sizeOf0,
  v0 := Try.zeroValue0,
  t3 := Try.underlying3,
  a3 := Try.isAgg3,
  z3 := Try.sizeOf3,
  v3 := Try.zeroValue3,
  t4 := Try.underlying4,
  a4 := Try.isAgg4,
  z4 := Try.sizeOf4,
  v4 := Try.zeroValue4,
  t22 := Try.underlying31,
  a22 := Try.isAgg31,
  z22 := Try.sizeOf31,
  v22 := Try.zeroValue31,
  a23 := Try.isAgg3,
  z23 := Try.sizeOf3,
  t25 := Try.underlying58,
  a25 := Try.isAgg58,
  z25 := Try.sizeOf58,
  v25 := Try.zeroValue58 }

/-- slices.ContainsFunc over a row of whole numbers, a predicate given. -/
theorem containsFunc_c (g : Nat) (eg : ∀ args w, (callFunc g args).run Try.prog w = .ok (.enter g args) w) (lb : Array Value) (p : Int → Bool) (A : Option Addr) (c : Nat) (xs : List Int) (w : World) (hp : PredAt Try.prog g lb (Value.int .i64) p w) (hr : (Kd.int .i64).C w A xs.length xs) (ha : 0 < xs.length → ∃ b, A = some ⟨b, 0, none⟩) :
    Calls Try.prog 73 #[.slice A xs.length c, .func (.func g) #[] lb] w fun e w' => e = .returned (.bool (xs.any p)) ∧ ∃ q, w' = w.drewN q := by
  by_cases hp0 : 0 < xs.length
  · obtain ⟨b, rfl⟩ := ha hp0
    have h := AnyE.slices_ContainsFunc Lcf (Value.int .i64) p g lb eg b 0 xs.length c xs w hp (Nat.le_refl _) (Kd.C_max hr) (cellsOf hr)
    rw [List.take_length] at h
    exact h
  · obtain rfl : xs = [] := List.length_eq_zero_iff.mp (by omega)
    exact (AnyE.slices_ContainsFunc_empty Lcf A c _ w).mono fun e w' ⟨he, hw⟩ => ⟨he, 0, hw⟩
def okB (x : Int) : Bool := decide (0 ≤ x ∧ x ≤ 1000000000)
theorem balPred (w : World) : PredAt Try.prog 74 #[] (Value.int .i64) (fun x => !okB x) w := fun W x _ => by
  unfold FnGives
  have h : impl_within.f x 0 1000000000 = some (okB x) := by rw [within_eq]; rfl
  go_enter Try.func74, Try.ntmps74
  go_wp2_with (go_at_call 46; refine (impl_within.calls x 0 1000000000 _ _ h).mono ?_; rintro e w' ⟨rfl, ⟨n, rfl⟩⟩)
  go_ret
  exact ⟨rfl, n, rfl⟩
theorem goodB_any {bal : List Int} {p : Int} (h : (bal.length : Int) = p) : goodB bal p = !(bal.any (fun x => !okB x)) := by
  unfold goodB
  cases hq : bal.any (fun x => !okB x) with
  | true =>
    obtain ⟨x, hx, hx2⟩ := List.any_eq_true.mp hq
    refine decide_eq_false (fun g => ?_)
    have : okB x = true := decide_eq_true (g.2 x hx)
    rw [this] at hx2; cases hx2
  | false =>
    refine decide_eq_true ⟨h, fun x hx => ?_⟩
    have h1 := List.any_eq_false.mp hq x hx
    have h2 : okB x = true := by simpa using h1
    exact of_decide_eq_true h2
set_option maxHeartbeats 8000000 in
set_option maxRecDepth 100000 in
theorem areBal_c (A0 : Option Addr) (c0 : Nat) (xs : List S54) (p : Int) (A2 : Option Addr) (c2 : Nat) (bal : List Int) (w : World) (hr0 : Kd.C k54 w A0 xs.length xs) (hc0 : xs.length ≤ c0) (hr2 : (Kd.int .i64).C w A2 bal.length bal) (ha2 : 0 < bal.length → ∃ b, A2 = some ⟨b, 0, none⟩) (hn : xs.length ≤ 1048576) (hm : bal.length ≤ 1048576) :
    Calls Try.prog 63 #[.slice A0 xs.length c0, .int .i64 p, .slice A2 bal.length c2] w fun e w' => e = .returned (.bool (goodC xs p && goodB bal p)) ∧ Below w.heap.size w w' := by
  obtain ⟨kv, hv⟩ := roundsOf (implValidC_ev xs p hn)
  have EG := Aside0.mk (show ∀ args w, (callFunc 74 args).run Try.prog w = .ok (.enter 74 args) w from enters_of Try.func74 (by kernel_rfl) rfl)
  have HR0 := Aside0.mk hr0
  have HC0 := Aside0.mk hc0
  have HR2 := Aside0.mk hr2
  have HA2 := Aside0.mk ha2
  by_cases g : goodC xs p = true
  · rw [g] at hv
    have HV := Aside0.mk hv
    have HG := Aside0.mk g
    by_cases hl : (bal.length : Int) = p
    · have hq := goodB_any hl
      obtain ⟨q, hqe⟩ : ∃ q, q = bal.any (fun x => !okB x) := ⟨_, rfl⟩
      rw [← hqe] at hq
      have HQ := Aside0.mk hqe
      have HGB := Aside0.mk hq
      have cl : ((bal.length : Int) == p) = true := by rw [beq_iff_eq]; exact hl
      clear hv hr0 hc0 hr2 ha2 g hq hqe hn hl
      cases q with
      | true =>
        go_enter Try.func63, Try.ntmps63
        go_wp2_with (first
          | (go_at_call 16; refine (impl_IsValidClaims.calls kv _ _ xs _ true _ HR0.out HC0.out HV.out).mono ?_; rintro e w1 ⟨rfl, hb⟩; have HB := Aside0.mk hb; clear hb)
          | (go_at_call 73; refine (containsFunc_c 74 EG.out #[] (fun x => !okB x) _ _ bal _ (balPred _) (Kd.C_below HR2.out HB.out) HA2.out).mono ?_; rw [← HQ.out]; rintro e w2 ⟨rfl, ⟨q, rfl⟩⟩))
        go_ret
        rw [HG.out, HGB.out]
        exact ⟨rfl, (by repeat (first | (with_reducible first | exact HB.out | apply below_alloc | apply pw_below_drewN | apply below_drew1) | exact HB.out))⟩
      | false =>
        go_enter Try.func63, Try.ntmps63
        go_wp2_with (first
          | (go_at_call 16; refine (impl_IsValidClaims.calls kv _ _ xs _ true _ HR0.out HC0.out HV.out).mono ?_; rintro e w1 ⟨rfl, hb⟩; have HB := Aside0.mk hb; clear hb)
          | (go_at_call 73; refine (containsFunc_c 74 EG.out #[] (fun x => !okB x) _ _ bal _ (balPred _) (Kd.C_below HR2.out HB.out) HA2.out).mono ?_; rw [← HQ.out]; rintro e w2 ⟨rfl, ⟨q, rfl⟩⟩))
        go_ret
        rw [HG.out, HGB.out]
        exact ⟨rfl, (by repeat (first | (with_reducible first | exact HB.out | apply below_alloc | apply pw_below_drewN | apply below_drew1) | exact HB.out))⟩
    · have hgb : goodB bal p = false := decide_eq_false (fun q => hl q.1)
      have HGB := Aside0.mk hgb
      have cl : ((bal.length : Int) == p) = false := by rw [beq_eq_false_iff_ne]; exact hl
      clear hv hr0 hc0 hr2 ha2 g hn hl hgb
      go_enter Try.func63, Try.ntmps63
      go_wp2_with (go_at_call 16; refine (impl_IsValidClaims.calls kv _ _ xs _ true _ HR0.out HC0.out HV.out).mono ?_; rintro e w1 ⟨rfl, hb⟩; have HB := Aside0.mk hb; clear hb)
      go_ret
      rw [HG.out, HGB.out]
      exact ⟨rfl, HB.out⟩
  · have g' : goodC xs p = false := by simpa using g
    rw [g'] at hv
    have HV := Aside0.mk hv
    have HG := Aside0.mk g'
    clear hv hr0 hc0 hr2 ha2 g g' hn
    go_enter Try.func63, Try.ntmps63
    go_wp2_with (go_at_call 16; refine (impl_IsValidClaims.calls kv _ _ xs _ false _ HR0.out HC0.out HV.out).mono ?_; rintro e w1 ⟨rfl, hb⟩; have HB := Aside0.mk hb; clear hb)
    go_ret
    rw [HG.out]
    exact ⟨rfl, HB.out⟩
theorem R_ownlt {α : Type} {d : Kd α} {e base : Nat} {ok : Nat → Prop} {w : World} {v : Value} {xs : List α} (h : d.R e w base ok v xs) {k : Nat} (hk : v.ownBlock = some k) : base ≤ k ∧ k < w.heap.size := by
  obtain ⟨inner, ho⟩ := Kd.R_own h
  exact ⟨own_base ho k hk, own_lt ho k hk⟩
/-- A store into another block than the row's own. -/
theorem R_offset {base : Nat} {w : World} {v : Value} {xs : List Int} (h : (Kd.int .i64).R 3 w base (fun _ => True) v xs) {g : Nat} (hd : ∀ k, v.ownBlock = some k → k ≠ g) (j : Nat) (u : Value) : (Kd.int .i64).R 3 (w.setCell ⟨g, j, none⟩ u) base (fun _ => True) v xs :=
  Kd.R_mono (Kd.R_far (p := ⟨g, j, none⟩) (R_flat flat_int h hd) (fun k hk => hk) u) (fun _ _ => trivial)
/-- Another row was appended to. -/
theorem R_offrow {base : Nat} {w w1 : World} {u v : Value} {xs : List Int} (h : (Kd.int .i64).R 3 w base (fun _ => True) u xs) (hg : w.grownBy w1 v.ownBlock) (hd : ∀ k, u.ownBlock = some k → v.ownBlock ≠ some k) : (Kd.int .i64).R 3 w1 base (fun _ => True) u xs :=
  Kd.R_mono (Kd.R_grown (R_flat flat_int h (fun k hk => hd k hk)) hg (fun k hk e => hk e.symm)) (fun _ _ => trivial)
theorem off_app {w : World} {v v1 : Value} {g : Nat} (hd : ∀ k, v.ownBlock = some k → k ≠ g) (hg : g < w.heap.size) (hat : v1.ownBlock = v.ownBlock ∨ ∃ b, v1.ownBlock = some b ∧ w.heap.size ≤ b) : ∀ k, v1.ownBlock = some k → k ≠ g := by
  intro k hk
  rcases hat with e | ⟨b, e, hb⟩
  · exact hd k (e ▸ hk)
  · rw [e] at hk
    injection hk with hk
    omega
def IvP (a b : Nat) (o : Option Nat) (k : Nat) : Prop := Iv a b k ∧ o = some k
theorem R_ivp {base a b : Nat} {ok : Nat → Prop} {w : World} {v : Value} {xs : List Int} (h : (Kd.int .i64).R 3 w base ok v xs) (ha : a ≤ base) (hb : b ≤ base) : (Kd.int .i64).R 3 w b (IvP a w.heap.size v.ownBlock) v xs :=
  R_flat flat_int (R_ivw h ha hb) (fun k hk => ⟨(R_ivw h ha hb).1 k hk, hk⟩)
theorem bitsI_q (q : Nat) (h : q < 1048576) : Go.bits .and .i64 (q : Int) 1 = ((q % 2 : Nat) : Int) := by
  rw [i64_and1 _ (by omega) (by omega)]; omega
set_option maxHeartbeats 8000000 in
set_option maxRecDepth 100000 in
theorem bitsOf_c (s n : Nat) (w : World) (hs : s < 2 ^ n) (hn : n ≤ 20) :
    Calls Try.prog 67 #[.int .i64 s] w fun e w' => ∃ v, e = .returned v ∧ (Kd.int .i64).R 3 w' w.heap.size (fun _ => True) v (blF n s 0) ∧ Below w.heap.size w w' := by
  have hs20 : s < 1048576 := Nat.lt_of_lt_of_le hs (Nat.le_trans (Nat.pow_le_pow_right (by decide) hn) (by decide))
  have HS := Aside0.mk hs
  clear hs
  go_enter Try.func67, Try.ntmps67
  go_wp2_with ((with_reducible refine gate_dst (N := 5) rfl ?_); refine Kd.R_lit (Kd.int .i64) w.heap.size 3 (w0 := w) ?hg (N := 5) ?hd (xs := []) (inner := []) (ok := fun _ => True) (okp := fun _ => True) ?hr ?hp (fun _ hk => hk) trivial (by repeat (first | (with_reducible first | exact (Below.refl w.heap.size w) | apply below_alloc | apply pw_below_drewN | apply below_drew1) | exact (Below.refl w.heap.size w))) (below_size (by repeat (first | (with_reducible first | exact (Below.refl w.heap.size w) | apply below_alloc | apply pw_below_drewN | apply below_drew1) | exact (Below.refl w.heap.size w)))) (by simp) ?_; (case hd => rfl); (case hg => rfl); (case hr => first | (go_simp; done) | (go_simp; rfl)); (case hp => exact (Reps.none _ _)); intro v1 w1 ho hb hgr hnw)
  have HOUT := Aside0.mk ho
  have HB := Aside0.mk hb
  clear ho hb hgr hnw
  go_loopw [3, 4] (fun v3 v4 wr => ∃ (i : Nat) (out : List Int), v4 = .int .i64 i ∧ Aside0 (i ≤ n) ∧ Aside0 (out ++ blF (n - i) (s / 2 ^ i) i = blF n s 0) ∧ Aside0 (out.length ≤ i) ∧ Aside0 ((Kd.int .i64).R 3 wr w.heap.size (fun _ => True) v3 out) ∧ Aside0 (Below w.heap.size w wr)) (fun _ v4 _ => n - (intOf v4).toNat)
  case atStart => exact ⟨0, [], rfl, ⟨Nat.zero_le _⟩, ⟨by simp⟩, ⟨by simp⟩, HOUT, HB⟩
  case round =>
    clear HOUT HB
    obtain ⟨i, out, rfl, HI, HE, HL, HOUT, HB⟩ := hrel
    have hin := HI.out
    have hE := HE.out
    have hol : out.length ≤ 20 := by have := HL.out; omega
    have hqe : (s : Int) / 2 ^ i = ((s / 2 ^ i : Nat) : Int) := by simp
    have hq20 : s / 2 ^ i < 1048576 := Nat.lt_of_le_of_lt (Nat.div_le_self _ _) hs20
    have hqn : s / 2 ^ i ≠ 0 → i < n := fun h => by
      rcases Nat.lt_or_ge i n with q | q
      · exact q
      · exact absurd (Nat.div_eq_of_lt (Nat.lt_of_lt_of_le HS.out (Nat.pow_le_pow_right (by decide) q))) h
    have hsc : s / 2 ^ (i + 1) = s / 2 ^ i / 2 := div_pow_succ s i
    obtain ⟨q, hq⟩ : ∃ q, q = s / 2 ^ i := ⟨_, rfl⟩
    rw [← hq] at hqe hq20 hqn hsc hE
    clear hq
    by_cases hz : q = 0
    · subst hz
      rw [blF_zero, List.append_nil] at hE
      have HE1 := Aside0.mk hE
      clear hE hqn hsc hq20
      go_wp2
      go_ret
      rw [← HE1.out]
      exact ⟨_, rfl, (by (with_reducible repeat (first | apply Kd.R_alloc | apply Kd.R_drewN | apply Kd.R_drew)); exact HOUT.out), (by repeat (first | (with_reducible first | exact HB.out | apply below_alloc | apply pw_below_drewN | apply below_drew1) | exact HB.out))⟩
    · have hin1 := hqn hz
      have hq0 : 0 < q := by omega
      have cq : decide (0 < q) = true := decide_eq_true hq0
      rw [show n - i = (n - (i + 1)) + 1 from by omega, blF, ← hsc] at hE
      have hbq := bitsI_q q hq20
      by_cases hbt : q % 2 = 1
      · rw [hbt] at hbq
        have hbit : Go.bits .and .i64 (q : Int) 1 = 1 := hbq
        rw [if_pos hbt, ← List.append_assoc] at hE
        have HE1 := Aside0.mk hE
        clear hE hbt hbq hqn hsc
        go_wp2_with ((with_reducible refine gate_builtin (b := .append) (xs := #[.tmp 17, .tmp 19]) rfl ?_); at_builtin; refine Kd.R_append (Kd.int .i64) (w0 := w) w.heap.size rfl (.tmp 17) (.tmp 19) 31 3 (.int .i64 0) 8 rfl Try.underlying31 infoI rfl (by decide) (by omega) u3 out (i : Int) [.int .i64 i] (fun _ => True) (fun _ => False) rfl rfl ?aP (fun _ hk => hk.elim) ?aF ?aO ?aB ?aS ?aL ?_; (case aP => exact rfl); (case aB => exact (by repeat (first | (with_reducible first | exact HB.out | apply below_alloc | apply pw_below_drewN | apply below_drew1) | exact HB.out))); (case aF => exact (fun _ _ => trivial)); (case aO => exact (by (with_reducible repeat (first | apply Kd.R_alloc | apply Kd.R_drewN | apply Kd.R_drew)); exact HOUT.out)); (case aS => exact (below_size (by repeat (first | (with_reducible first | exact HB.out | apply below_alloc | apply pw_below_drewN | apply below_drew1) | exact HB.out)))); (case aL => omega); intro v1 w1 ho hb hg hat)
        go_roundw
        case rel => exact ⟨i + 1, out ++ [(i : Int)], by go_num, ⟨hin1⟩, HE1, ⟨by rw [List.length_append, List.length_singleton]; have := HL.out; omega⟩, ⟨(by (with_reducible repeat (first | apply Kd.R_alloc | apply Kd.R_drewN | apply Kd.R_drew)); exact ho)⟩, ⟨(by repeat (first | (with_reducible first | exact hb | apply below_alloc | apply pw_below_drewN | apply below_drew1) | exact hb))⟩⟩
        case measure => simp [intOf]; omega
      · rw [show q % 2 = 0 from by omega] at hbq
        have hbit : Go.bits .and .i64 (q : Int) 1 = 0 := hbq
        rw [if_neg hbt, List.nil_append] at hE
        have HE1 := Aside0.mk hE
        clear hE hbt hbq hqn hsc
        go_wp2
        go_roundw
        case rel => exact ⟨i + 1, out, by go_num, ⟨hin1⟩, HE1, ⟨by have := HL.out; omega⟩, ⟨(by (with_reducible repeat (first | apply Kd.R_alloc | apply Kd.R_drewN | apply Kd.R_drew)); exact HOUT.out)⟩, ⟨(by repeat (first | (with_reducible first | exact HB.out | apply below_alloc | apply pw_below_drewN | apply below_drew1) | exact HB.out))⟩⟩
        case measure => simp [intOf]; omega
def Lmax_ren : Go.Shelf.Ren := ⟨fun | 113 => 59 | n => n, fun | 0 => 0 | 3 => 3 | 4 => 4 | 9 => 9 | 20 => 20 | 28 => 31 | n => n, fun | n => n⟩
theorem Lmax : Go.Proofs.Lays.n113 Try.prog Lmax_ren := {
  mixed := by kernel_rfl,
  f113 := Try.func59.trans (congrArg some (by kernel_rfl)),
  t0 := Try.underlying0,
  a0 := Try.isAgg0,
  z0 := Try.sizeOf0,
  v0 := Try.zeroValue0,
  t3 := Try.underlying3,
  a3 := Try.isAgg3,
  z3 := Try.sizeOf3,
  v3 := Try.zeroValue3,
  t4 := Try.underlying4,
  a4 := Try.isAgg4,
  z4 := Try.sizeOf4,
  v4 := Try.zeroValue4,
  t9 := Try.underlying9,
  a9 := Try.isAgg9,
  z9 := Try.sizeOf9,
  v9 := Try.zeroValue9,
  t20 := Try.underlying20,
  a20 := Try.isAgg20,
  z20 := Try.sizeOf20,
  v20 := Try.zeroValue20,
  t28 := Try.underlying31,
  a28 := Try.isAgg31,
  z28 := Try.sizeOf31,
  v28 := Try.zeroValue31 }

def Lmin_ren : Go.Shelf.Ren := ⟨fun | 114 => 58 | n => n, fun | 0 => 0 | 3 => 3 | 4 => 4 | 9 => 9 | 20 => 20 | 28 => 31 | n => n, fun | n => n⟩
theorem Lmin : Go.Proofs.Lays.n114 Try.prog Lmin_ren := {
  mixed := by kernel_rfl,
  f114 := Try.func58.trans (congrArg some (by kernel_rfl)),
  t0 := Try.underlying0,
  a0 := Try.isAgg0,
  z0 := Try.sizeOf0,
  v0 := Try.zeroValue0,
  t3 := Try.underlying3,
  a3 := Try.isAgg3,
  z3 := Try.sizeOf3,
  v3 := Try.zeroValue3,
  t4 := Try.underlying4,
  a4 := Try.isAgg4,
  z4 := Try.sizeOf4,
  v4 := Try.zeroValue4,
  t9 := Try.underlying9,
  a9 := Try.isAgg9,
  z9 := Try.sizeOf9,
  v9 := Try.zeroValue9,
  t20 := Try.underlying20,
  a20 := Try.isAgg20,
  z20 := Try.sizeOf20,
  v20 := Try.zeroValue20,
  t28 := Try.underlying31,
  a28 := Try.isAgg31,
  z28 := Try.sizeOf31,
  v28 := Try.zeroValue31 }

theorem max_c (g m cap : Nat) (xs : List Int) (w : World) (hr : (Kd.int .i64).C w (some ⟨g, 0, none⟩) m xs) (h0 : 0 < m) :
    Calls Try.prog 59 #[.slice (some ⟨g, 0, none⟩) m cap] w fun e w' => e = .returned (.int .i64 (Lib.maxOf xs)) ∧ w = w' := by
  have hl := Kd.C_len hr
  have h := Any.slices_Max_int Lmax g 0 m cap xs w h0 (by omega) (Kd.C_max hr) (cellsOfD hr)
  rw [List.take_of_length_le (by omega)] at h
  exact h.mono fun e w' ⟨he, hw⟩ => ⟨he, hw.symm⟩
theorem min_c (g m cap : Nat) (xs : List Int) (w : World) (hr : (Kd.int .i64).C w (some ⟨g, 0, none⟩) m xs) (h0 : 0 < m) :
    Calls Try.prog 58 #[.slice (some ⟨g, 0, none⟩) m cap] w fun e w' => e = .returned (.int .i64 (Lib.minOf xs)) ∧ w = w' := by
  have hl := Kd.C_len hr
  have h := Any.slices_Min_int Lmin g 0 m cap xs w h0 (by omega) (Kd.C_max hr) (cellsOfD hr)
  rw [List.take_of_length_le (by omega)] at h
  exact h.mono fun e w' ⟨he, hw⟩ => ⟨he, hw.symm⟩
set_option maxHeartbeats 8000000 in
set_option maxRecDepth 100000 in
theorem spec_c (A0 : Option Addr) (c0 : Nat) (xs : List S54) (p : Int) (A2 : Option Addr) (c2 : Nat) (bal : List Int) (w : World) (hr0 : Kd.C k54 w A0 xs.length xs) (hc0 : xs.length ≤ c0) (ha0 : 0 < xs.length → ∃ b, A0 = some ⟨b, 0, none⟩) (hn : xs.length ≤ 1048576) (hr2 : (Kd.int .i64).C w A2 bal.length bal) (hc2 : bal.length ≤ c2) (ha2 : 0 < bal.length → ∃ b, A2 = some ⟨b, 0, none⟩) (hm : bal.length ≤ 1048576) :
    Calls Try.prog 34 #[.slice A0 xs.length c0, .int .i64 p, .slice A2 bal.length c2] w fun e w' => ∃ v, e = .returned (.tuple #[v, .bool (togA xs p bal).2]) ∧ (Kd.int .i64).R 3 w' w.heap.size (fun _ => True) v (togA xs p bal).1 ∧ Below w.heap.size w w' := by
  obtain ⟨kv, hv⟩ := roundsOf (specGoodC_ev xs p hn)
  obtain ⟨kb, hvb⟩ := roundsOf (specBal_ev bal p hm)
  obtain ⟨gc, hgc⟩ : ∃ q, q = goodC xs p := ⟨_, rfl⟩
  obtain ⟨gb, hgb⟩ : ∃ q, q = goodB bal p := ⟨_, rfl⟩
  rw [← hgc] at hv
  rw [← hgb] at hvb
  have HV := Aside0.mk hv
  have HVB := Aside0.mk hvb
  have HR0 := Aside0.mk hr0
  have HC0 := Aside0.mk hc0
  have HR2 := Aside0.mk hr2
  have HC2 := Aside0.mk hc2
  by_cases g : gc = true ∧ xs.length ≤ 10 ∧ gb = true
  · obtain ⟨rfl, hx10, rfl⟩ := g
    have gg := of_decide_eq_true hgc.symm
    have gg2 := of_decide_eq_true hgb.symm
    obtain ⟨⟨p1, p2⟩, hx20, hok, hsum⟩ := gg
    obtain ⟨m, rfl⟩ := Int.eq_ofNat_of_zero_le (show 0 ≤ p from by omega)
    have hbl : bal.length = m := by have := gg2.1; omega
    have hfin : togA xs m bal = (blF xs.length (bestOf xs bal) 0, true) := by unfold togA; rw [if_pos ⟨hgc.symm, hx10, hgb.symm⟩]
    obtain ⟨bb, rfl⟩ := ha2 (by omega)
    have HBL := Aside0.mk hbl
    rw [hfin]
    obtain ⟨N, hN⟩ : ∃ N, N = 2 ^ xs.length := ⟨_, rfl⟩
    have hN1 : 1 ≤ N := by rw [hN]; exact Nat.pow_pos (by decide)
    have hN2 : N ≤ 1024 := by rw [hN]; exact Nat.le_trans (Nat.pow_le_pow_right (by decide) hx10) (by decide)
    obtain ⟨best, hbe⟩ : ∃ b, b = bestOf xs bal := ⟨_, rfl⟩
    have hbN : best < N := by rw [hbe, hN]; exact bestOf_lt xs bal
    rw [← hbe]
    have HF := Aside0.mk (show (foldT xs bal (N - 1) 1 (0, 0)).1 = best from by rw [hbe, hN]; rfl)
    have HN := Aside0.mk hN
    have HOK := Aside0.mk hok
    have HSUM := Aside0.mk hsum
    have HBD := Aside0.mk gg2.2
    have HX20 := Aside0.mk hx20
    have m1 : 2 ≤ m := by omega
    have m2 : m ≤ 8 := by omega
    have cx : decide (10 < xs.length) = false := decide_eq_false (by omega)
    clear hv hvb hr0 hc0 hr2 hc2 hok hx20 hfin hsum ha0 p1 p2 gg2 ha2 hgc hgb hbl hN hbe
    go_enter Try.func34, Try.ntmps34
    go_wp2_with ((with_reducible refine gate_dst (N := 18) rfl ?_); refine Kd.R_lit (Kd.int .i64) w.heap.size 3 (w0 := w) ?hg (N := 18) ?hd (xs := []) (inner := []) (ok := fun _ => True) (okp := fun _ => True) ?hr ?hp (fun _ hk => hk) trivial (by repeat (first | (with_reducible first | exact (Below.refl w.heap.size w) | apply below_alloc | apply pw_below_drewN | apply below_drew1) | exact (Below.refl w.heap.size w))) (below_size (by repeat (first | (with_reducible first | exact (Below.refl w.heap.size w) | apply below_alloc | apply pw_below_drewN | apply below_drew1) | exact (Below.refl w.heap.size w)))) (by simp) ?_; (case hd => rfl); (case hg => rfl); (case hr => first | (go_simp; done) | (go_simp; rfl)); (case hp => exact (Reps.none _ _)); intro v1 w1 ho hb hgr hnw)
    have HOUT := Aside0.mk ho
    have HB := Aside0.mk hb
    clear ho hb hgr hnw
    refine (spec_l16Good.calls kv _ _ xs _ true _ (by repeat (first | exact (Kd.C_below HR0.out HB.out) | (with_reducible refine Kd.C_alloc ?_ _) | (with_reducible refine Kd.C_drewN ?_ _) | (with_reducible refine Kd.C_drew ?_))) HC0.out HV.out).mono ?_
    rintro e w2 ⟨rfl, hb⟩
    have n_ := Aside0.mk (Kd.R_below (by (with_reducible repeat (first | apply Kd.R_alloc | apply Kd.R_drewN | apply Kd.R_drew)); exact HOUT.out) hb); clear HOUT; have HOUT := n_; clear n_; have n_ := Aside0.mk (below_step (by repeat (first | (with_reducible first | exact HB.out | apply below_alloc | apply pw_below_drewN | apply below_drew1) | exact HB.out)) hb); clear HB; have HB := n_; clear n_ hb
    go_wp2_with fail
    refine (spec_l16Balances.calls kb _ _ bal _ true _ (by repeat (first | exact (Kd.C_below HR2.out HB.out) | (with_reducible refine Kd.C_alloc ?_ _) | (with_reducible refine Kd.C_drewN ?_ _) | (with_reducible refine Kd.C_drew ?_))) HC2.out HVB.out).mono ?_
    rintro e w3 ⟨rfl, hb0⟩
    have hb := Drawn0.below hb0
    have n_ := Aside0.mk (Kd.R_below (by (with_reducible repeat (first | apply Kd.R_alloc | apply Kd.R_drewN | apply Kd.R_drew)); exact HOUT.out) hb); clear HOUT; have HOUT := n_; clear n_; have n_ := Aside0.mk (below_step (by repeat (first | (with_reducible first | exact HB.out | apply below_alloc | apply pw_below_drewN | apply below_drew1) | exact HB.out)) hb); clear HB; have HB := n_; clear n_ hb
    clear hb0
    have hNw : wrap64 (2 ^ xs.length) = (N : Int) := by
      rw [show (2 : Int) ^ xs.length = (N : Int) from by rw [HN.out]; simp]
      exact wrapId (by omega)
    have hu : IntKind.u64.wrap (xs.length : Int) = (xs.length : Int) := u64_small _ (by omega) (by omega)
    go_wp2
    go_loopw [9, 10, 11] (fun v9 v10 v11 wr => ∃ (s : Nat × Int) (v : Nat), v9 = .int .i64 s.1 ∧ v10 = .int .i64 s.2 ∧ v11 = .int .i64 v ∧ Aside0 (v ≤ N) ∧ Aside0 ((foldT xs bal (N - v) v s).1 = best) ∧ Aside0 (0 ≤ s.2 ∧ s.2 ≤ 1000000000) ∧ Aside0 ((Kd.int .i64).R 3 wr w.heap.size (fun _ => True) v1 []) ∧ Aside0 (Below w.heap.size w wr)) (fun _ _ v11 _ => N - (intOf v11).toNat)
    case atStart => exact ⟨(0, 0), 1, rfl, rfl, rfl, ⟨hN1⟩, HF, ⟨by decide⟩, HOUT, HB⟩
    case round =>
      clear HOUT HB HF
      obtain ⟨⟨s1, s2⟩, v, rfl, rfl, rfl, HVN, HF, HS, HOUT, HB⟩ := hrel
      by_cases hvN : v < N
      · have cv : decide (v < N) = true := decide_eq_true hvN
        go_wp2_with fail
        refine (set_c _ _ xs v _ (by repeat (first | exact (Kd.C_below HR0.out HB.out) | (with_reducible refine Kd.C_alloc ?_ _) | (with_reducible refine Kd.C_drewN ?_ _) | (with_reducible refine Kd.C_drew ?_))) HC0.out HX20.out (by omega)).mono ?_
        rintro e w1 ⟨v12, rfl, ho, hb⟩
        have HP := Aside0.mk (Kd.R_lower ho (show w.heap.size ≤ _ from below_size HB.out))
        clear ho
        have n_ := Aside0.mk (Kd.R_below (by (with_reducible repeat (first | apply Kd.R_alloc | apply Kd.R_drewN | apply Kd.R_drew)); exact HOUT.out) hb); clear HOUT; have HOUT := n_; clear n_; have n_ := Aside0.mk (below_step (by repeat (first | (with_reducible first | exact HB.out | apply below_alloc | apply pw_below_drewN | apply below_drew1) | exact HB.out)) hb); clear HB; have HB := n_; clear n_ hb
        obtain ⟨P, hP⟩ : ∃ P, P = pickF xs v := ⟨_, rfl⟩
        rw [← hP] at HP
        have okP : ∀ a ∈ P, okC m a := fun a ha => HOK.out a (pickF_mem xs v a (by rw [← hP]; exact ha))
        have lenP : P.length ≤ 20 := by have := pickF_len xs v; have := HX20.out; rw [hP]; omega
        have sumP : sumC P ≤ 1000000000 := by have := pickF_sum xs v HOK.out; have := HSUM.out; rw [hP]; omega
        have HPE := Aside0.mk hP
        have OKP := Aside0.mk okP
        have SUMP := Aside0.mk sumP
        clear hP okP sumP
        obtain ⟨Ap, cp, hvp⟩ := Kd.R_slice HP.out
        subst hvp
        have HPC := Aside0.mk (R_cap HP.out)
        go_wp2_with fail
        refine (specPos_c _ _ P m _ (by repeat (first | exact (R_C HP.out) | (with_reducible refine Kd.C_alloc ?_ _) | (with_reducible refine Kd.C_drewN ?_ _) | (with_reducible refine Kd.C_drew ?_))) HPC.out (by omega) lenP OKP.out).mono ?_
        rintro e w2 ⟨v13, rfl, ho, hb⟩
        obtain ⟨g, cap, hv13, hg1, hg2, cells, hg3⟩ := Kd.R_form ho (by rw [posFold_length, List.length_replicate]; omega)
        rw [posFold_length, List.length_replicate] at hv13
        subst hv13
        obtain ⟨T, hT⟩ : ∃ T, T = posFold (List.replicate m 0) P := ⟨_, rfl⟩
        rw [← hT] at ho
        obtain ⟨hT1, hT2⟩ := posFold_get P (List.replicate m 0) 0 OKP.out List.length_replicate (Int.le_refl 0) (by have := SUMP.out; omega) (fun x hx => by rw [List.eq_of_mem_replicate hx]; exact ⟨by decide, by decide⟩)
        rw [← hT] at hT1 hT2
        have HT1 := Aside0.mk (show ∀ j, j < m → T.getD j 0 = dsum P j from fun j hj => by rw [hT1 j hj, List.getD_eq_getElem?_getD, List.getElem?_replicate, if_pos hj]; exact Int.zero_add _)
        have HT2 := Aside0.mk (show ∀ x ∈ T, -1000000000 ≤ x ∧ x ≤ 1000000000 from fun x hx => by have := hT2 x hx; have := SUMP.out; omega)
        have HT := Aside0.mk (Kd.R_lower ho (show w.heap.size ≤ _ from below_size HB.out))
        have HTL := Aside0.mk (show T.length = m from by rw [hT, posFold_length, List.length_replicate])
        clear ho hT hT1 hT2 hg1 hg2 hg3 cells
        have n_ := Aside0.mk (Kd.R_below (by (with_reducible repeat (first | apply Kd.R_alloc | apply Kd.R_drewN | apply Kd.R_drew)); exact HOUT.out) hb); clear HOUT; have HOUT := n_; clear n_; have n_ := Aside0.mk (Kd.R_below (by (with_reducible repeat (first | apply Kd.R_alloc | apply Kd.R_drewN | apply Kd.R_drew)); exact HP.out) hb); clear HP; have HP := n_; clear n_; have n_ := Aside0.mk (below_step (by repeat (first | (with_reducible first | exact HB.out | apply below_alloc | apply pw_below_drewN | apply below_drew1) | exact HB.out)) hb); clear HB; have HB := n_; clear n_ hb
        go_wp2
        go_loopw [14, 15] (fun v14 v15 wr => ∃ i : Nat, v14 = .bool (decide (∀ j, j < i → 0 ≤ bal.getD j 0 + dsum P j)) ∧ v15 = .int .i64 i ∧ Aside0 (i ≤ m) ∧ Aside0 ((Kd.int .i64).R 3 wr w.heap.size (fun _ => True) (.slice (some ⟨g, 0, none⟩) m cap) T) ∧ Aside0 (Kd.R k54 54 wr w.heap.size (fun _ => True) (.slice Ap P.length cp) P) ∧ Aside0 ((Kd.int .i64).R 3 wr w.heap.size (fun _ => True) v1 []) ∧ Aside0 (Below w.heap.size w wr)) (fun _ v15 _ => m - (intOf v15).toNat)
        case atStart => exact ⟨0, by rw [decide_eq_true (fun j hj => absurd hj (Nat.not_lt_zero j))], rfl, ⟨Nat.zero_le _⟩, HT, HP, HOUT, HB⟩
        case round =>
          clear HT HP HOUT HB
          obtain ⟨i, rfl, rfl, HI, HT, HP, HOUT, HB⟩ := hrel
          by_cases him : i < m
          · have ci : decide (i < m) = true := decide_eq_true him
            obtain ⟨x, hxe⟩ : ∃ x, x = bal.getD i 0 := ⟨_, rfl⟩
            obtain ⟨y, hye⟩ : ∃ y, y = T.getD i 0 := ⟨_, rfl⟩
            have hil : i < bal.length := by rw [HBL.out]; exact him
            have qi : (i : Int) < (m : Int) := by omega
            have qb : (i : Int) < (bal.length : Int) := by omega
            have bx : 0 ≤ x ∧ x ≤ 1000000000 := by rw [hxe]; exact HBD.out _ (getD_memT hil)
            have by_ : -1000000000 ≤ y ∧ y ≤ 1000000000 := by rw [hye]; exact HT2.out _ (getD_memT (by rw [HTL.out]; exact him))
            have hcx := cellsOfD HR2.out i hil
            rw [Nat.zero_add, ← hxe] at hcx
            replace hcx := (HB.out.cell (World.block_lt_of_cell? w _ hcx)).trans hcx
            have hcy := (Kd.R_celln 0 HT.out (i : Int) (by omega) qi).1
            rw [Int.toNat_natCast, show rdOf 0 T (i : Int) = y from by rw [rdOf, Int.toNat_natCast, hye]] at hcy
            have hsplit : decide (∀ j, j < i + 1 → 0 ≤ bal.getD j 0 + dsum P j) = (decide (∀ j, j < i → 0 ≤ bal.getD j 0 + dsum P j) && decide (0 ≤ bal.getD i 0 + dsum P i)) := all_succ (fun j => 0 ≤ bal.getD j 0 + dsum P j) i
            rw [← hxe, ← HT1.out i him, ← hye] at hsplit
            have HSP := Aside0.mk hsplit
            obtain ⟨fi, hfi⟩ : ∃ f, f = decide (∀ j, j < i → 0 ≤ bal.getD j 0 + dsum P j) := ⟨_, rfl⟩
            rw [← hfi] at hsplit ⊢
            have HSP := Aside0.mk hsplit
            have HIM := Aside0.mk him
            clear hsplit hxe hye hil hfi
            cases fi with
            | false =>
              go_upto_region 14 with (fail)
              go_region
              clear hcx hcy
              go_wp2
              go_roundw
              case rel => exact ⟨i + 1, by rw [HSP.out]; rfl, by go_num, ⟨HIM.out⟩, ⟨(by (with_reducible repeat (first | apply Kd.R_alloc | apply Kd.R_drewN | apply Kd.R_drew)); exact HT.out)⟩, ⟨(by (with_reducible repeat (first | apply Kd.R_alloc | apply Kd.R_drewN | apply Kd.R_drew)); exact HP.out)⟩, ⟨(by (with_reducible repeat (first | apply Kd.R_alloc | apply Kd.R_drewN | apply Kd.R_drew)); exact HOUT.out)⟩, ⟨(by repeat (first | (with_reducible first | exact HB.out | apply below_alloc | apply pw_below_drewN | apply below_drew1) | exact HB.out))⟩⟩
              case measure => simp [intOf]; omega
            | true =>
              by_cases cs : 0 ≤ x + y
              · have csb : decide (0 ≤ x + y) = true := decide_eq_true cs
                have HC := Aside0.mk csb
                clear cs
                go_upto_region 14 with (fail)
                go_region
                clear hcx hcy
                go_wp2
                go_roundw
                case rel => exact ⟨i + 1, by rw [HSP.out, HC.out]; rfl, by go_num, ⟨HIM.out⟩, ⟨(by (with_reducible repeat (first | apply Kd.R_alloc | apply Kd.R_drewN | apply Kd.R_drew)); exact HT.out)⟩, ⟨(by (with_reducible repeat (first | apply Kd.R_alloc | apply Kd.R_drewN | apply Kd.R_drew)); exact HP.out)⟩, ⟨(by (with_reducible repeat (first | apply Kd.R_alloc | apply Kd.R_drewN | apply Kd.R_drew)); exact HOUT.out)⟩, ⟨(by repeat (first | (with_reducible first | exact HB.out | apply below_alloc | apply pw_below_drewN | apply below_drew1) | exact HB.out))⟩⟩
                case measure => simp [intOf]; omega
              · have csb : decide (0 ≤ x + y) = false := decide_eq_false cs
                have HC := Aside0.mk csb
                clear cs
                go_upto_region 14 with (fail)
                go_region
                clear hcx hcy
                go_wp2
                go_roundw
                case rel => exact ⟨i + 1, by rw [HSP.out, HC.out]; rfl, by go_num, ⟨HIM.out⟩, ⟨(by (with_reducible repeat (first | apply Kd.R_alloc | apply Kd.R_drewN | apply Kd.R_drew)); exact HT.out)⟩, ⟨(by (with_reducible repeat (first | apply Kd.R_alloc | apply Kd.R_drewN | apply Kd.R_drew)); exact HP.out)⟩, ⟨(by (with_reducible repeat (first | apply Kd.R_alloc | apply Kd.R_drewN | apply Kd.R_drew)); exact HOUT.out)⟩, ⟨(by repeat (first | (with_reducible first | exact HB.out | apply below_alloc | apply pw_below_drewN | apply below_drew1) | exact HB.out))⟩⟩
                case measure => simp [intOf]; omega
          · obtain rfl : m = i := by have := HI.out; omega
            have ci : decide (m < m) = false := decide_eq_false (by omega)
            have hfit : decide (∀ j, j < m → 0 ≤ bal.getD j 0 + dsum P j) = fitB bal P := by unfold fitB; rw [HBL.out]
            rw [hfit]
            have hstep : foldT xs bal (N - v) v (s1, s2) = foldT xs bal (N - (v + 1)) (v + 1) (if fitB bal P = true ∧ s2 < sumC P then (v, sumC P) else (s1, s2)) := by
              rw [show N - v = (N - (v + 1)) + 1 from by omega, foldT, show stepTg xs bal (s1, s2) v = (if fitB bal P = true ∧ s2 < sumC P then (v, sumC P) else (s1, s2)) from by rw [HPE.out]; rfl]
            have hF := HF.out
            rw [hstep] at hF
            obtain ⟨kg, hg⟩ := roundsOf (specGross_ev (m : Int) P lenP OKP.out)
            have hS := HS.out
            have hsp := SUMP.out
            obtain ⟨sm, hsm⟩ : ∃ q, q = sumC P := ⟨_, rfl⟩
            obtain ⟨ff, hff⟩ : ∃ q, q = fitB bal P := ⟨_, rfl⟩
            rw [← hsm, ← hff] at hF
            rw [← hff]
            rw [← hsm] at hsp hg
            have HG := Aside0.mk hg
            have hg0 : 0 ≤ sm := by rw [hsm]; exact (sumC_bd P OKP.out).1
            clear hfit hstep hg hff hsm
            go_upto_region 15 with (fail)
            go_wp2_with fail
            refine (spec_l16Gross.calls kg _ _ P _ _ (by repeat (first | exact (R_C HP.out) | (with_reducible refine Kd.C_alloc ?_ _) | (with_reducible refine Kd.C_drewN ?_ _) | (with_reducible refine Kd.C_drew ?_))) HPC.out HG.out).mono ?_
            rintro e w3 ⟨rfl, hb0⟩
            have hb := Drawn0.below hb0
            have n_ := Aside0.mk (Kd.R_below (by (with_reducible repeat (first | apply Kd.R_alloc | apply Kd.R_drewN | apply Kd.R_drew)); exact HOUT.out) hb); clear HOUT; have HOUT := n_; clear n_; have n_ := Aside0.mk (below_step (by repeat (first | (with_reducible first | exact HB.out | apply below_alloc | apply pw_below_drewN | apply below_drew1) | exact HB.out)) hb); clear HB; have HB := n_; clear n_ hb
            clear hb0 HT HP
            cases ff with
            | false =>
              rw [if_neg (by simp)] at hF
              have HF1 := Aside0.mk hF
              clear hF
              go_wp2
              go_roundw
              case rel => exact ⟨(s1, s2), v + 1, rfl, rfl, by go_num, ⟨hvN⟩, HF1, HS, ⟨(by (with_reducible repeat (first | apply Kd.R_alloc | apply Kd.R_drewN | apply Kd.R_drew)); exact HOUT.out)⟩, ⟨(by repeat (first | (with_reducible first | exact HB.out | apply below_alloc | apply pw_below_drewN | apply below_drew1) | exact HB.out))⟩⟩
              case measure => simp [intOf]; omega
            | true =>
              by_cases cg : s2 < sm
              · have cgb : decide (s2 < sm) = true := decide_eq_true cg
                rw [if_pos ⟨rfl, cg⟩] at hF
                have HF1 := Aside0.mk hF
                clear hF cg
                go_wp2
                go_roundw
                case rel => exact ⟨(v, sm), v + 1, rfl, rfl, by go_num, ⟨hvN⟩, HF1, ⟨⟨hg0, hsp⟩⟩, ⟨(by (with_reducible repeat (first | apply Kd.R_alloc | apply Kd.R_drewN | apply Kd.R_drew)); exact HOUT.out)⟩, ⟨(by repeat (first | (with_reducible first | exact HB.out | apply below_alloc | apply pw_below_drewN | apply below_drew1) | exact HB.out))⟩⟩
                case measure => simp [intOf]; omega
              · have cgb : decide (s2 < sm) = false := decide_eq_false cg
                rw [if_neg (fun q => cg q.2)] at hF
                have HF1 := Aside0.mk hF
                clear hF cg
                go_wp2
                go_roundw
                case rel => exact ⟨(s1, s2), v + 1, rfl, rfl, by go_num, ⟨hvN⟩, HF1, HS, ⟨(by (with_reducible repeat (first | apply Kd.R_alloc | apply Kd.R_drewN | apply Kd.R_drew)); exact HOUT.out)⟩, ⟨(by repeat (first | (with_reducible first | exact HB.out | apply below_alloc | apply pw_below_drewN | apply below_drew1) | exact HB.out))⟩⟩
                case measure => simp [intOf]; omega
      · obtain rfl : N = v := by have := HVN.out; omega
        have cv : decide (N < N) = false := decide_eq_false (by omega)
        have hF := HF.out
        rw [Nat.sub_self] at hF
        obtain rfl : s1 = best := hF
        clear HF HVN
        go_wp2
        go_loopw [8, 17] (fun v8 v17 wr => ∃ (i : Nat) (out : List Int), v17 = .int .i64 i ∧ Aside0 (i ≤ xs.length) ∧ Aside0 (out ++ blF (xs.length - i) (s1 / 2 ^ i) i = blF xs.length s1 0) ∧ Aside0 (out.length ≤ i) ∧ Aside0 ((Kd.int .i64).R 3 wr w.heap.size (fun _ => True) v8 out) ∧ Aside0 (Below w.heap.size w wr)) (fun _ v17 _ => xs.length - (intOf v17).toNat)
        case atStart => exact ⟨0, [], rfl, ⟨Nat.zero_le _⟩, ⟨by simp⟩, ⟨by simp⟩, HOUT, HB⟩
        case round =>
          clear HOUT HB
          obtain ⟨i, out, rfl, HI, HE, HL, HOUT, HB⟩ := hrel
          by_cases hi : i < xs.length
          · have ci : decide (i < xs.length) = true := decide_eq_true hi
            have hui : IntKind.u64.wrap (i : Int) = (i : Int) := u64_small _ (by omega) (by omega)
            have hE := HE.out
            have hol : out.length ≤ 10 := by have := HL.out; omega
            rw [show xs.length - i = (xs.length - (i + 1)) + 1 from by omega, blF, ← div_pow_succ] at hE
            by_cases hbt : s1 / 2 ^ i % 2 = 1
            · have hbit := bit_one (v := s1) (i := i) (by omega) hbt
              rw [if_pos hbt, ← List.append_assoc] at hE
              have HE1 := Aside0.mk hE
              clear hE hbt
              go_wp2_with ((with_reducible refine gate_builtin (b := .append) (xs := #[.tmp 89, .tmp 91]) rfl ?_); at_builtin; refine Kd.R_append (Kd.int .i64) (w0 := w) w.heap.size rfl (.tmp 89) (.tmp 91) 31 3 (.int .i64 0) 8 rfl Try.underlying31 infoI rfl (by decide) (by omega) u8 out (i : Int) [.int .i64 i] (fun _ => True) (fun _ => False) rfl rfl ?aP (fun _ hk => hk.elim) ?aF ?aO ?aB ?aS ?aL ?_; (case aP => exact rfl); (case aB => exact (by repeat (first | (with_reducible first | exact HB.out | apply below_alloc | apply pw_below_drewN | apply below_drew1) | exact HB.out))); (case aF => exact (fun _ _ => trivial)); (case aO => exact (by (with_reducible repeat (first | apply Kd.R_alloc | apply Kd.R_drewN | apply Kd.R_drew)); exact HOUT.out)); (case aS => exact (below_size (by repeat (first | (with_reducible first | exact HB.out | apply below_alloc | apply pw_below_drewN | apply below_drew1) | exact HB.out)))); (case aL => omega); intro v1 w1 ho hb hg hat)
              go_roundw
              case rel => exact ⟨i + 1, out ++ [(i : Int)], by go_num, ⟨hi⟩, HE1, ⟨by rw [List.length_append, List.length_singleton]; have := HL.out; omega⟩, ⟨(by (with_reducible repeat (first | apply Kd.R_alloc | apply Kd.R_drewN | apply Kd.R_drew)); exact ho)⟩, ⟨(by repeat (first | (with_reducible first | exact hb | apply below_alloc | apply pw_below_drewN | apply below_drew1) | exact hb))⟩⟩
              case measure => simp [intOf]; omega
            · have hbit := bit_zero (v := s1) (i := i) (by omega) hbt
              rw [if_neg hbt, List.nil_append] at hE
              have HE1 := Aside0.mk hE
              clear hE hbt
              go_wp2
              go_roundw
              case rel => exact ⟨i + 1, out, by go_num, ⟨hi⟩, HE1, ⟨by have := HL.out; omega⟩, ⟨(by (with_reducible repeat (first | apply Kd.R_alloc | apply Kd.R_drewN | apply Kd.R_drew)); exact HOUT.out)⟩, ⟨(by repeat (first | (with_reducible first | exact HB.out | apply below_alloc | apply pw_below_drewN | apply below_drew1) | exact HB.out))⟩⟩
              case measure => simp [intOf]; omega
          · obtain rfl : xs.length = i := by have := HI.out; omega
            have ci : decide (xs.length < xs.length) = false := decide_eq_false (by omega)
            have hE := HE.out
            rw [Nat.sub_self, blF, List.append_nil] at hE
            have HE1 := Aside0.mk hE
            clear hE
            go_wp2
            go_ret2
            rw [← HE1.out]
            exact ⟨_, rfl, (by (with_reducible repeat (first | apply Kd.R_alloc | apply Kd.R_drewN | apply Kd.R_drew)); exact HOUT.out), (by repeat (first | (with_reducible first | exact HB.out | apply below_alloc | apply pw_below_drewN | apply below_drew1) | exact HB.out))⟩
  · have hfin : togA xs p bal = ([], false) := by unfold togA; rw [if_neg (by rw [← hgc, ← hgb]; exact g)]
    rw [hfin]
    cases gc with
    | false =>
      clear hfin ha0 ha2 hgc hgb g hvb hv hr0 hc0 hr2 hc2
      go_enter Try.func34, Try.ntmps34
      go_wp2_with ((with_reducible refine gate_dst (N := 18) rfl ?_); refine Kd.R_lit (Kd.int .i64) w.heap.size 3 (w0 := w) ?hg (N := 18) ?hd (xs := []) (inner := []) (ok := fun _ => True) (okp := fun _ => True) ?hr ?hp (fun _ hk => hk) trivial (by repeat (first | (with_reducible first | exact (Below.refl w.heap.size w) | apply below_alloc | apply pw_below_drewN | apply below_drew1) | exact (Below.refl w.heap.size w))) (below_size (by repeat (first | (with_reducible first | exact (Below.refl w.heap.size w) | apply below_alloc | apply pw_below_drewN | apply below_drew1) | exact (Below.refl w.heap.size w)))) (by simp) ?_; (case hd => rfl); (case hg => rfl); (case hr => first | (go_simp; done) | (go_simp; rfl)); (case hp => exact (Reps.none _ _)); intro v1 w1 ho hb hgr hnw)
      have HOUT := Aside0.mk ho
      have HB := Aside0.mk hb
      clear ho hb hgr hnw
      refine (spec_l16Good.calls kv _ _ xs _ false _ (by repeat (first | exact (Kd.C_below HR0.out HB.out) | (with_reducible refine Kd.C_alloc ?_ _) | (with_reducible refine Kd.C_drewN ?_ _) | (with_reducible refine Kd.C_drew ?_))) HC0.out HV.out).mono ?_
      rintro e w2 ⟨rfl, hb⟩
      have n_ := Aside0.mk (Kd.R_below (by (with_reducible repeat (first | apply Kd.R_alloc | apply Kd.R_drewN | apply Kd.R_drew)); exact HOUT.out) hb); clear HOUT; have HOUT := n_; clear n_; have n_ := Aside0.mk (below_step (by repeat (first | (with_reducible first | exact HB.out | apply below_alloc | apply pw_below_drewN | apply below_drew1) | exact HB.out)) hb); clear HB; have HB := n_; clear n_ hb
      go_wp2
      go_ret2
      exact ⟨_, rfl, (by (with_reducible repeat (first | apply Kd.R_alloc | apply Kd.R_drewN | apply Kd.R_drew)); exact HOUT.out), (by repeat (first | (with_reducible first | exact HB.out | apply below_alloc | apply pw_below_drewN | apply below_drew1) | exact HB.out))⟩
    | true =>
      by_cases hx10 : xs.length ≤ 10
      · have cx : decide (10 < xs.length) = false := decide_eq_false (by omega)
        cases gb with
        | true => exact absurd ⟨rfl, hx10, rfl⟩ g
        | false =>
          clear hfin ha0 ha2 hgc hgb g hvb hv hr0 hc0 hr2 hc2
          go_enter Try.func34, Try.ntmps34
          go_wp2_with ((with_reducible refine gate_dst (N := 18) rfl ?_); refine Kd.R_lit (Kd.int .i64) w.heap.size 3 (w0 := w) ?hg (N := 18) ?hd (xs := []) (inner := []) (ok := fun _ => True) (okp := fun _ => True) ?hr ?hp (fun _ hk => hk) trivial (by repeat (first | (with_reducible first | exact (Below.refl w.heap.size w) | apply below_alloc | apply pw_below_drewN | apply below_drew1) | exact (Below.refl w.heap.size w))) (below_size (by repeat (first | (with_reducible first | exact (Below.refl w.heap.size w) | apply below_alloc | apply pw_below_drewN | apply below_drew1) | exact (Below.refl w.heap.size w)))) (by simp) ?_; (case hd => rfl); (case hg => rfl); (case hr => first | (go_simp; done) | (go_simp; rfl)); (case hp => exact (Reps.none _ _)); intro v1 w1 ho hb hgr hnw)
          have HOUT := Aside0.mk ho
          have HB := Aside0.mk hb
          clear ho hb hgr hnw
          refine (spec_l16Good.calls kv _ _ xs _ true _ (by repeat (first | exact (Kd.C_below HR0.out HB.out) | (with_reducible refine Kd.C_alloc ?_ _) | (with_reducible refine Kd.C_drewN ?_ _) | (with_reducible refine Kd.C_drew ?_))) HC0.out HV.out).mono ?_
          rintro e w2 ⟨rfl, hb⟩
          have n_ := Aside0.mk (Kd.R_below (by (with_reducible repeat (first | apply Kd.R_alloc | apply Kd.R_drewN | apply Kd.R_drew)); exact HOUT.out) hb); clear HOUT; have HOUT := n_; clear n_; have n_ := Aside0.mk (below_step (by repeat (first | (with_reducible first | exact HB.out | apply below_alloc | apply pw_below_drewN | apply below_drew1) | exact HB.out)) hb); clear HB; have HB := n_; clear n_ hb
          go_wp2_with fail
          refine (spec_l16Balances.calls kb _ _ bal _ false _ (by repeat (first | exact (Kd.C_below HR2.out HB.out) | (with_reducible refine Kd.C_alloc ?_ _) | (with_reducible refine Kd.C_drewN ?_ _) | (with_reducible refine Kd.C_drew ?_))) HC2.out HVB.out).mono ?_
          rintro e w3 ⟨rfl, hb0⟩
          have hb := Drawn0.below hb0
          have n_ := Aside0.mk (Kd.R_below (by (with_reducible repeat (first | apply Kd.R_alloc | apply Kd.R_drewN | apply Kd.R_drew)); exact HOUT.out) hb); clear HOUT; have HOUT := n_; clear n_; have n_ := Aside0.mk (below_step (by repeat (first | (with_reducible first | exact HB.out | apply below_alloc | apply pw_below_drewN | apply below_drew1) | exact HB.out)) hb); clear HB; have HB := n_; clear n_ hb
          clear hb0
          go_wp2
          go_ret2
          exact ⟨_, rfl, (by (with_reducible repeat (first | apply Kd.R_alloc | apply Kd.R_drewN | apply Kd.R_drew)); exact HOUT.out), (by repeat (first | (with_reducible first | exact HB.out | apply below_alloc | apply pw_below_drewN | apply below_drew1) | exact HB.out))⟩
      · have cx : decide (10 < xs.length) = true := decide_eq_true (by omega)
        clear hfin ha0 ha2 hgc hgb g hvb hv hr0 hc0 hr2 hc2
        go_enter Try.func34, Try.ntmps34
        go_wp2_with ((with_reducible refine gate_dst (N := 18) rfl ?_); refine Kd.R_lit (Kd.int .i64) w.heap.size 3 (w0 := w) ?hg (N := 18) ?hd (xs := []) (inner := []) (ok := fun _ => True) (okp := fun _ => True) ?hr ?hp (fun _ hk => hk) trivial (by repeat (first | (with_reducible first | exact (Below.refl w.heap.size w) | apply below_alloc | apply pw_below_drewN | apply below_drew1) | exact (Below.refl w.heap.size w))) (below_size (by repeat (first | (with_reducible first | exact (Below.refl w.heap.size w) | apply below_alloc | apply pw_below_drewN | apply below_drew1) | exact (Below.refl w.heap.size w)))) (by simp) ?_; (case hd => rfl); (case hg => rfl); (case hr => first | (go_simp; done) | (go_simp; rfl)); (case hp => exact (Reps.none _ _)); intro v1 w1 ho hb hgr hnw)
        have HOUT := Aside0.mk ho
        have HB := Aside0.mk hb
        clear ho hb hgr hnw
        refine (spec_l16Good.calls kv _ _ xs _ true _ (by repeat (first | exact (Kd.C_below HR0.out HB.out) | (with_reducible refine Kd.C_alloc ?_ _) | (with_reducible refine Kd.C_drewN ?_ _) | (with_reducible refine Kd.C_drew ?_))) HC0.out HV.out).mono ?_
        rintro e w2 ⟨rfl, hb⟩
        have n_ := Aside0.mk (Kd.R_below (by (with_reducible repeat (first | apply Kd.R_alloc | apply Kd.R_drewN | apply Kd.R_drew)); exact HOUT.out) hb); clear HOUT; have HOUT := n_; clear n_; have n_ := Aside0.mk (below_step (by repeat (first | (with_reducible first | exact HB.out | apply below_alloc | apply pw_below_drewN | apply below_drew1) | exact HB.out)) hb); clear HB; have HB := n_; clear n_ hb
        go_wp2
        go_ret2
        exact ⟨_, rfl, (by (with_reducible repeat (first | apply Kd.R_alloc | apply Kd.R_drewN | apply Kd.R_drew)); exact HOUT.out), (by repeat (first | (with_reducible first | exact HB.out | apply below_alloc | apply pw_below_drewN | apply below_drew1) | exact HB.out))⟩
set_option maxHeartbeats 8000000 in
set_option maxRecDepth 100000 in
theorem impl_c (A0 : Option Addr) (c0 : Nat) (xs : List S54) (p : Int) (A2 : Option Addr) (c2 : Nat) (bal : List Int) (w : World) (hr0 : Kd.C k54 w A0 xs.length xs) (hc0 : xs.length ≤ c0) (ha0 : 0 < xs.length → ∃ b, A0 = some ⟨b, 0, none⟩) (hn : xs.length ≤ 1048576) (hr2 : (Kd.int .i64).C w A2 bal.length bal) (hc2 : bal.length ≤ c2) (ha2 : 0 < bal.length → ∃ b, A2 = some ⟨b, 0, none⟩) (hm : bal.length ≤ 1048576) :
    Calls Try.prog 35 #[.slice A0 xs.length c0, .int .i64 p, .slice A2 bal.length c2] w fun e w' => ∃ v, e = .returned (.tuple #[v, .bool (togA xs p bal).2]) ∧ (Kd.int .i64).R 3 w' w.heap.size (fun _ => True) v (togA xs p bal).1 ∧ Below w.heap.size w w' := by
  obtain ⟨gc, hgc⟩ : ∃ q, q = goodC xs p := ⟨_, rfl⟩
  obtain ⟨gb, hgb⟩ : ∃ q, q = goodB bal p := ⟨_, rfl⟩
  have HR0 := Aside0.mk hr0
  have HC0 := Aside0.mk hc0
  have HR2 := Aside0.mk hr2
  have HC2 := Aside0.mk hc2
  have HA2 := Aside0.mk ha2
  by_cases g : gc = true ∧ xs.length ≤ 10 ∧ gb = true
  · obtain ⟨rfl, hx10, rfl⟩ := g
    have gg := of_decide_eq_true hgc.symm
    have gg2 := of_decide_eq_true hgb.symm
    obtain ⟨⟨p1, p2⟩, hx20, hok, hsum⟩ := gg
    obtain ⟨m, rfl⟩ := Int.eq_ofNat_of_zero_le (show 0 ≤ p from by omega)
    have hbl : bal.length = m := by have := gg2.1; omega
    have hfin : togA xs m bal = (blF xs.length (bestOf xs bal) 0, true) := by unfold togA; rw [if_pos ⟨hgc.symm, hx10, hgb.symm⟩]
    obtain ⟨bb, rfl⟩ := ha2 (by omega)
    have HBL := Aside0.mk hbl
    rw [hfin]
    obtain ⟨N, hN⟩ : ∃ N, N = 2 ^ xs.length := ⟨_, rfl⟩
    have hN1 : 1 ≤ N := by rw [hN]; exact Nat.pow_pos (by decide)
    have hN2 : N ≤ 1024 := by rw [hN]; exact Nat.le_trans (Nat.pow_le_pow_right (by decide) hx10) (by decide)
    obtain ⟨best, hbe⟩ : ∃ b, b = bestOf xs bal := ⟨_, rfl⟩
    have hbN : best < N := by rw [hbe, hN]; exact bestOf_lt xs bal
    rw [← hbe]
    have HF := Aside0.mk (show (foldT xs bal N 0 (0, 0)).1 = best from by rw [foldT_zero xs bal N hN1, hbe, hN]; rfl)
    have HN := Aside0.mk hN
    have HBN := Aside0.mk hbN
    have HOK := Aside0.mk hok
    have HSUM := Aside0.mk hsum
    have HBD := Aside0.mk gg2.2
    have HX20 := Aside0.mk hx20
    have m1 : 2 ≤ m := by omega
    have m2 : m ≤ 8 := by omega
    have cx : decide (10 < xs.length) = false := decide_eq_false (by omega)
    have HG := Aside0.mk (show (goodC xs m && goodB bal m) = true from by rw [← hgc, ← hgb]; rfl)
    clear hr0 hc0 hr2 hc2 hok hx20 hfin hsum ha0 p1 p2 gg2 ha2 hgc hgb hbl hN hbe hbN
    have hNw : wrap64 (2 ^ xs.length) = (N : Int) := by
      rw [show (2 : Int) ^ xs.length = (N : Int) from by rw [HN.out]; simp]
      exact wrapId (by omega)
    go_enter Try.func35, Try.ntmps35
    go_wp2_with fail
    refine (areBal_c _ _ xs _ _ _ bal _ HR0.out HC0.out HR2.out HA2.out hn hm).mono ?_
    rw [HG.out]
    rintro e w1 ⟨rfl, hb⟩
    have HB := Aside0.mk hb
    clear hb
    go_wp2
    rw [hNw]
    clear hNw
    go_loopw [8, 9, 28] (fun v8 v9 v28 wr => ∃ (s1 : Nat) (s2 : Int) (v : Nat), v8 = .int .i64 s1 ∧ v9 = .int .i64 s2 ∧ v28 = .int .i64 v ∧ Aside0 (v ≤ N) ∧ Aside0 ((foldT xs bal (N - v) v (s1, s2)).1 = best) ∧ Aside0 (0 ≤ s2 ∧ s2 ≤ 1000000000) ∧ Aside0 (Below w.heap.size w wr)) (fun _ _ v28 _ => N - (intOf v28).toNat)
    case atStart => exact ⟨0, 0, 0, rfl, rfl, rfl, ⟨Nat.zero_le _⟩, HF, ⟨by decide⟩, HB⟩
    case round =>
      clear HB HF
      obtain ⟨s1, s2, v, rfl, rfl, rfl, HVN, HF, HS, HB⟩ := hrel
      by_cases hvN : v < N
      · have cv : decide (v < N) = true := decide_eq_true hvN
        go_wp2_with fail
        refine (cloneInt_c _ _ bal _ (by repeat (first | exact (Kd.C_below HR2.out HB.out) | (with_reducible refine Kd.C_alloc ?_ _) | (with_reducible refine Kd.C_drewN ?_ _) | (with_reducible refine Kd.C_drew ?_))) hm).mono ?_
        rintro e w2 ⟨v11, rfl, ho, hb⟩
        obtain ⟨g, cap, hv11, hg1, hg2, cells, hg3⟩ := Kd.R_form ho (by have := HBL.out; omega)
        rw [HBL.out] at hv11
        subst hv11
        have HO := Aside0.mk (Kd.R_lower ho (show w.heap.size ≤ _ from below_size HB.out))
        replace hg1 : w.heap.size ≤ g := Nat.le_trans (below_size HB.out) hg1
        have n_ := Aside0.mk (below_step (by repeat (first | (with_reducible first | exact HB.out | apply below_alloc | apply pw_below_drewN | apply below_drew1) | exact HB.out)) hb); clear HB; have HB := n_; clear n_ hb
        clear ho hg2 hg3 cells
        obtain ⟨P, hP⟩ : ∃ P, P = pickF xs v := ⟨_, rfl⟩
        have okP : ∀ a ∈ P, okC m a := fun a ha => HOK.out a (pickF_mem xs v a (by rw [← hP]; exact ha))
        have sumP : sumC P ≤ 1000000000 := by have := pickF_sum xs v HOK.out; have := HSUM.out; rw [hP]; omega
        have sumP0 := (sumC_bd P okP).1
        have HPE := Aside0.mk hP
        have HFM := Aside0.mk (fit_min (p := P) HBL.out (by omega) (posFold_get P bal 1000000000 okP HBL.out (by decide) (by omega) (fun x hx => by have := HBD.out x hx; omega)).1)
        obtain ⟨T, hT⟩ : ∃ T, T = posFold bal P := ⟨_, rfl⟩
        obtain ⟨sm, hsm⟩ : ∃ q, q = sumC P := ⟨_, rfl⟩
        rw [← hT] at HFM
        have HT0 := Aside0.mk (show posFold bal (pickF xs (v / 2 ^ ([] : List S54).length)) = T from by rw [hT, hP]; simp)
        have HS0 := Aside0.mk (show 0 + sumC (pickF xs (v / 2 ^ ([] : List S54).length)) = sm from by rw [hsm, hP]; simp)
        have HSMB := Aside0.mk (show 0 ≤ sm ∧ sm ≤ 1000000000 from by rw [hsm]; exact ⟨sumP0, sumP⟩)
        have HSME := Aside0.mk hsm
        clear hT hsm hP okP sumP sumP0
        go_wp2
        go_loopw [12, 35] (fun v12 v35 wr => ∃ (pre rest : List S54) (b : List Int) (sum : Int), Aside0 (xs = pre ++ rest) ∧ v12 = .int .i64 sum ∧ v35 = .int .i64 pre.length ∧ Aside0 (posFold b (pickF rest (v / 2 ^ pre.length)) = T) ∧ Aside0 (sum + sumC (pickF rest (v / 2 ^ pre.length)) = sm) ∧ Aside0 (0 ≤ sum) ∧ Aside0 (b.length = m) ∧ Aside0 (∀ x ∈ b, -(1000000000 + sum) ≤ x ∧ x ≤ 1000000000 + sum) ∧ Aside0 ((Kd.int .i64).R 3 wr w.heap.size (fun _ => True) (.slice (some ⟨g, 0, none⟩) m cap) b) ∧ Aside0 (Below w.heap.size w wr)) (fun _ v35 _ => xs.length - (intOf v35).toNat)
        case atStart => exact ⟨[], xs, bal, 0, ⟨rfl⟩, rfl, rfl, HT0, HS0, ⟨Int.le_refl 0⟩, HBL, ⟨fun x hx => by have := HBD.out x hx; omega⟩, HO, HB⟩
        case round =>
          clear HO HB HT0 HS0
          obtain ⟨pre, rest, b, sum, HX, rfl, rfl, HT, HSS, HS0, HL, HBB, HO, HB⟩ := hrel
          cases rest with
          | nil =>
            have c : decide (pre.length < xs.length) = false := decide_eq_false (by have := len_nil HX.out; omega)
            have hT := HT.out
            have hS := HSS.out
            rw [pickF, posFold] at hT
            rw [pickF, sumC] at hS
            obtain rfl : sum = sm := by omega
            subst hT
            have hstep : foldT xs bal (N - v) v (s1, s2) = foldT xs bal (N - (v + 1)) (v + 1) (if fitB bal P = true ∧ s2 < sum then (v, sum) else (s1, s2)) := by
              rw [show N - v = (N - (v + 1)) + 1 from by omega, foldT, show stepTg xs bal (s1, s2) v = (if fitB bal P = true ∧ s2 < sum then (v, sum) else (s1, s2)) from by rw [HSME.out, HPE.out]; rfl]
            have hF := HF.out
            rw [hstep] at hF
            have hFM := HFM.out
            obtain ⟨ff, hff⟩ : ∃ q, q = fitB bal P := ⟨_, rfl⟩
            rw [← hff] at hF hFM
            have hSb := HS.out
            have hSMB := HSMB.out
            clear hstep hff hS HT HSS
            by_cases cg : s2 < sum
            · have cgb : decide (s2 < sum) = true := decide_eq_true cg
              obtain ⟨mn, hmn⟩ : ∃ q, q = Lib.minOf b := ⟨_, rfl⟩
              rw [← hmn] at hFM
              have HMN := Aside0.mk hmn
              clear hmn
              cases ff with
              | true =>
                rw [if_pos ⟨rfl, cg⟩] at hF
                have HF1 := Aside0.mk hF
                clear hF cg
                go_wp2_with (go_at_call 58; refine (min_c g m cap b _ (by repeat (first | exact (R_C HO.out) | (with_reducible refine Kd.C_alloc ?_ _) | (with_reducible refine Kd.C_drewN ?_ _) | (with_reducible refine Kd.C_drew ?_))) (by omega)).mono ?_; rw [← HMN.out]; rintro e w3 ⟨rfl, rfl⟩)
                go_roundw
                case rel => exact ⟨v, sum, v + 1, rfl, rfl, by go_num, ⟨hvN⟩, HF1, HSMB, ⟨(by repeat (first | (with_reducible first | exact HB.out | apply below_alloc | apply pw_below_drewN | apply below_drew1) | exact HB.out))⟩⟩
                case measure => simp [intOf]; omega
              | false =>
                rw [if_neg (by simp)] at hF
                have HF1 := Aside0.mk hF
                clear hF cg
                go_wp2_with (go_at_call 58; refine (min_c g m cap b _ (by repeat (first | exact (R_C HO.out) | (with_reducible refine Kd.C_alloc ?_ _) | (with_reducible refine Kd.C_drewN ?_ _) | (with_reducible refine Kd.C_drew ?_))) (by omega)).mono ?_; rw [← HMN.out]; rintro e w3 ⟨rfl, rfl⟩)
                go_roundw
                case rel => exact ⟨s1, s2, v + 1, rfl, rfl, by go_num, ⟨hvN⟩, HF1, HS, ⟨(by repeat (first | (with_reducible first | exact HB.out | apply below_alloc | apply pw_below_drewN | apply below_drew1) | exact HB.out))⟩⟩
                case measure => simp [intOf]; omega
            · have cgb : decide (s2 < sum) = false := decide_eq_false cg
              rw [if_neg (fun q => cg q.2)] at hF
              have HF1 := Aside0.mk hF
              clear hF cg hFM
              go_wp2
              go_roundw
              case rel => exact ⟨s1, s2, v + 1, rfl, rfl, by go_num, ⟨hvN⟩, HF1, HS, ⟨(by repeat (first | (with_reducible first | exact HB.out | apply below_alloc | apply pw_below_drewN | apply below_drew1) | exact HB.out))⟩⟩
              case measure => simp [intOf]; omega
          | cons a t =>
            have hlt := len_cons HX.out
            have hpl : (pre.length : Int) < xs.length := by omega
            have ha := HOK.out a (by rw [HX.out]; simp)
            have HA := Aside0.mk ha
            have p0 := ha.1.1
            have q0 : a.f0 < (m : Int) := by have := ha.1.2; omega
            have p1 := ha.2.1.1
            have q1 : a.f1 < (m : Int) := by have := ha.2.1.2; omega
            have a2 := ha.2.2.2
            obtain ⟨ad, e0, hx0, hx1, hx2⟩ := at_T54 HR0.out (pre.length : Int) (by omega) hpl
            rw [rd_T54_at HX.out rfl] at hx0 hx1 hx2
            simp only [Int.toNat_natCast] at hx0 hx1 hx2
            cases e0
            replace hx0 := (HB.out.cell (World.block_lt_of_cell? w _ hx0)).trans hx0
            replace hx1 := (HB.out.cell (World.block_lt_of_cell? w _ hx1)).trans hx1
            replace hx2 := (HB.out.cell (World.block_lt_of_cell? w _ hx2)).trans hx2
            have c : decide (pre.length < xs.length) = true := decide_eq_true (by omega)
            have c' : pre.length < xs.length := by omega
            have HSN := Aside0.mk (snoc HX.out)
            have OKT : ∀ x ∈ t, okC m x := fun x hx => HOK.out x (by rw [HX.out]; simp [hx])
            have hq : v / 2 ^ pre.length / 2 = v / 2 ^ (pre.length + 1) := (div_pow_succ v pre.length).symm
            have hT := HT.out
            have hS := HSS.out
            rw [pickF, hq] at hT hS
            have hpn : 0 ≤ sumC (pickF t (v / 2 ^ (pre.length + 1))) := (sumC_bd _ (fun x hx => OKT x (pickF_mem t _ x hx))).1
            have hsmb := HSMB.out
            have hs0 := HS0.out
            clear hlt hq OKT
            go_upto_region 12 with (fail)
            clear hx0 hx1 hx2
            obtain ⟨W1, hW1⟩ : ∃ W1, W1 = wr.alloc (.cells #[.int .i64 a.f0, .int .i64 a.f1, .int .i64 a.f2] 54) := ⟨_, rfl⟩
            have HK := Aside0.mk (show W1.heap[wr.heap.size]? = some (.cells #[.int .i64 a.f0, .int .i64 a.f1, .int .i64 a.f2] 54 (0, 0)) from by rw [hW1]; exact blk_new wr _)
            have HO1 := Aside0.mk (show (Kd.int .i64).R 3 W1 w.heap.size (fun _ => True) (.slice (some ⟨g, 0, none⟩) m cap) b from by rw [hW1]; exact Kd.R_alloc HO.out _)
            have HB1 := Aside0.mk (show Below w.heap.size w W1 from by rw [hW1]; exact below_alloc HB.out _)
            have gB : wr.heap.size ≠ g := Nat.ne_of_gt (R_ownlt HO.out rfl).2
            rw [← hW1]
            clear hW1 HO HB
            generalize wr.heap.size = B at HK gB ⊢
            by_cases hbt : v / 2 ^ pre.length % 2 = 1
            · have hbit := bit_one (v := v) (i := pre.length) (by omega) hbt
              rw [if_pos hbt] at hT hS
              have hS2 : sum + (a.f2 + sumC (pickF t (v / 2 ^ (pre.length + 1)))) = sm := hS
              have hT2 : posFold (posStep b a) (pickF t (v / 2 ^ (pre.length + 1))) = T := hT
              obtain ⟨ps1, ps2, bVA, bVB⟩ := posStep_set HA.out HL.out (1000000000 + sum) (by omega) HBB.out
              have hgb := (posStep_get HA.out HL.out (1000000000 + sum) (by omega) HBB.out).2
              have hsn : 0 ≤ sum + a.f2 := by omega
              have hse : sum + a.f2 + sumC (pickF t (v / 2 ^ (pre.length + 1))) = sm := by omega
              have hsb : 0 ≤ sum ∧ sum ≤ 1000000000 := by omega
              obtain ⟨VA, hVA⟩ : ∃ q, q = rd b a.f0 := ⟨_, rfl⟩
              obtain ⟨VB, hVB⟩ : ∃ q, q = rd b a.f1 := ⟨_, rfl⟩
              rw [← hVA] at ps1 ps2 bVA
              rw [← hVB] at ps1 ps2 bVB
              have HVA := Aside0.mk hVA
              have HP1 := Aside0.mk ps1
              have HP2 := Aside0.mk ps2
              have HT1 := Aside0.mk hT2
              have HSS1 := Aside0.mk hse
              have HS1 := Aside0.mk hsn
              have HBB1 := Aside0.mk (show ∀ x ∈ posStep b a, -(1000000000 + (sum + a.f2)) ≤ x ∧ x ≤ 1000000000 + (sum + a.f2) from fun x hx => by have := hgb x hx; omega)
              clear hT hS hS2 hT2 hgb hsn hse hVA hVB ps1 ps2 hpn hsmb hs0 hbt
              go_upto_region 13 with (fail)
              clear hbit
              have hk0 := (blk_cell HK.out 0).trans rfl
              have hk2 := (blk_cell HK.out 2).trans rfl
              have hy := Kd.R_celln 0 HO1.out a.f0 p0 q0
              rw [show rdOf 0 b a.f0 = VA from HVA.out.symm] at hy
              obtain ⟨hy, hf⟩ := hy
              go_region
              clear hk0 hk2 hy hf
              go_upto_region 14 with (fail)
              have HO3 := Aside0.mk (Kd.R_drew (Kd.R_putn HO1.out a.f0 (VA - a.f2)))
              have HB3 := Aside0.mk (below_drew (below_set (j := a.f0.toNat) (v := .int .i64 (VA - a.f2)) HB1.out hg1))
              have HK3 := Aside0.mk (blk_drew (blk_far HK.out (p := ⟨g, a.f0.toNat, none⟩) gB (.int .i64 (VA - a.f2))))
              generalize (W1.setCell ⟨g, a.f0.toNat, none⟩ (.int .i64 (VA - a.f2))).drew = W3 at HO3 HB3 HK3 ⊢
              clear HK HO1 HB1
              have hk1 := (blk_cell HK3.out 1).trans rfl
              have hk2 := (blk_cell HK3.out 2).trans rfl
              have hy := Kd.R_celln 0 HO3.out a.f1 p1 q1
              rw [show rdOf 0 (b.set a.f0.toNat (VA - a.f2)) a.f1 = VB from HP2.out] at hy
              obtain ⟨hy, hf⟩ := hy
              go_region
              clear hk1 hk2 hy hf
              go_upto_region 15 with (fail)
              have HO4 := Aside0.mk (Kd.R_drew (Kd.R_putn HO3.out a.f1 (VB + a.f2)))
              have HB4 := Aside0.mk (below_drew (below_set (j := a.f1.toNat) (v := .int .i64 (VB + a.f2)) HB3.out hg1))
              have HK4 := Aside0.mk (blk_drew (blk_far HK3.out (p := ⟨g, a.f1.toNat, none⟩) gB (.int .i64 (VB + a.f2))))
              generalize (W3.setCell ⟨g, a.f1.toNat, none⟩ (.int .i64 (VB + a.f2))).drew = W4 at HO4 HB4 HK4 ⊢
              clear HK3 HO3 HB3
              rw [← HP1.out] at HO4
              have hk2 := (blk_cell HK4.out 2).trans rfl
              go_wp2
              go_roundw
              case rel => exact ⟨pre ++ [a], t, posStep b a, sum + a.f2, HSN, rfl, by rw [len_snoc], ⟨by rw [List.length_append, List.length_singleton]; exact HT1.out⟩, ⟨by rw [List.length_append, List.length_singleton]; exact HSS1.out⟩, HS1, ⟨by rw [posStep_length]; exact HL.out⟩, HBB1, ⟨(by (with_reducible repeat (first | apply Kd.R_alloc | apply Kd.R_drewN | apply Kd.R_drew)); exact HO4.out)⟩, ⟨(by repeat (first | (with_reducible first | exact HB4.out | apply below_alloc | apply pw_below_drewN | apply below_drew1) | exact HB4.out))⟩⟩
              case measure => simp [intOf]; omega
            · have hbit := bit_zero (v := v) (i := pre.length) (by omega) hbt
              rw [if_neg hbt, List.nil_append] at hT hS
              have HT1 := Aside0.mk hT
              have HSS1 := Aside0.mk hS
              clear hT hS hbt hpn hsmb hs0
              go_wp2
              go_roundw
              case rel => exact ⟨pre ++ [a], t, b, sum, HSN, rfl, by rw [len_snoc], ⟨by rw [List.length_append, List.length_singleton]; exact HT1.out⟩, ⟨by rw [List.length_append, List.length_singleton]; exact HSS1.out⟩, HS0, HL, HBB, ⟨(by (with_reducible repeat (first | apply Kd.R_alloc | apply Kd.R_drewN | apply Kd.R_drew)); exact HO1.out)⟩, ⟨(by repeat (first | (with_reducible first | exact HB1.out | apply below_alloc | apply pw_below_drewN | apply below_drew1) | exact HB1.out))⟩⟩
              case measure => simp [intOf]; omega
      · obtain rfl : N = v := by have := HVN.out; omega
        have cv : decide (N < N) = false := decide_eq_false (by omega)
        have hF := HF.out
        rw [Nat.sub_self] at hF
        obtain rfl : s1 = best := hF
        clear HF HVN
        have hb62 := HBN.out
        rw [HN.out] at hb62
        have HB62 := Aside0.mk hb62
        clear hb62
        go_wp2_with fail
        refine (bitsOf_c s1 xs.length _ HB62.out HX20.out).mono ?_
        rintro e w2 ⟨vr, rfl, ho, hb⟩
        have HO := Aside0.mk (Kd.R_lower ho (show w.heap.size ≤ _ from below_size HB.out))
        have n_ := Aside0.mk (below_step (by repeat (first | (with_reducible first | exact HB.out | apply below_alloc | apply pw_below_drewN | apply below_drew1) | exact HB.out)) hb); clear HB; have HB := n_; clear n_ hb
        go_wp2
        go_ret2
        exact ⟨_, rfl, (by (with_reducible repeat (first | apply Kd.R_alloc | apply Kd.R_drewN | apply Kd.R_drew)); exact HO.out), (by repeat (first | (with_reducible first | exact HB.out | apply below_alloc | apply pw_below_drewN | apply below_drew1) | exact HB.out))⟩
  · have hfin : togA xs p bal = ([], false) := by unfold togA; rw [if_neg (by rw [← hgc, ← hgb]; exact g)]
    rw [hfin]
    obtain ⟨gg, hgg⟩ : ∃ q, q = (goodC xs p && goodB bal p) := ⟨_, rfl⟩
    have HG := Aside0.mk hgg
    have hcase : gg = false ∨ ¬ xs.length ≤ 10 := by
      rw [hgg, ← hgc, ← hgb]
      cases gc <;> cases gb <;> simp_all
    clear hfin ha0 ha2 hgc hgb g hr0 hc0 hr2 hc2 hgg
    rcases hcase with rfl | hx
    · go_enter Try.func35, Try.ntmps35
      go_wp2_with fail
      refine (areBal_c _ _ xs _ _ _ bal _ HR0.out HC0.out HR2.out HA2.out hn hm).mono ?_
      rw [← HG.out]
      rintro e w1 ⟨rfl, hb⟩
      have HB := Aside0.mk hb
      clear hb
      go_wp2
      go_ret2
      exact ⟨_, rfl, Kd.R_nil _ _ _ _ _, (by repeat (first | (with_reducible first | exact HB.out | apply below_alloc | apply pw_below_drewN | apply below_drew1) | exact HB.out))⟩
    · have cx : decide (10 < xs.length) = true := decide_eq_true (by omega)
      cases gg with
      | false =>
        go_enter Try.func35, Try.ntmps35
        go_wp2_with fail
        refine (areBal_c _ _ xs _ _ _ bal _ HR0.out HC0.out HR2.out HA2.out hn hm).mono ?_
        rw [← HG.out]
        rintro e w1 ⟨rfl, hb⟩
        have HB := Aside0.mk hb
        clear hb
        go_wp2
        go_ret2
        exact ⟨_, rfl, Kd.R_nil _ _ _ _ _, (by repeat (first | (with_reducible first | exact HB.out | apply below_alloc | apply pw_below_drewN | apply below_drew1) | exact HB.out))⟩
      | true =>
        go_enter Try.func35, Try.ntmps35
        go_wp2_with fail
        refine (areBal_c _ _ xs _ _ _ bal _ HR0.out HC0.out HR2.out HA2.out hn hm).mono ?_
        rw [← HG.out]
        rintro e w1 ⟨rfl, hb⟩
        have HB := Aside0.mk hb
        clear hb
        go_wp2
        go_ret2
        exact ⟨_, rfl, Kd.R_nil _ _ _ _ _, (by repeat (first | (with_reducible first | exact HB.out | apply below_alloc | apply pw_below_drewN | apply below_drew1) | exact HB.out))⟩
theorem flat_Claim (w : World) (b : Nat) (p q : Nat → Prop) (x : S54) (cs : List Value) (h : k54.M w b p x cs) : k54.M w b q x cs := by
  obtain rfl := k54_openM h
  exact k54_mkM w b q x

set_option maxHeartbeats 16000000 in
set_option maxRecDepth 100000 in
theorem law_c (A0 : Option Addr) (c0 : Nat) (l0 : List S56) (a1 : Int) (A2 : Option Addr) (c2 : Nat) (l2 : List Int) (w : World) (hr0 : Kd.C k56 w A0 l0.length l0) (hc0 : l0.length ≤ c0) (hr2 : Kd.C (Kd.int .i64) w A2 l2.length l2) (hc2 : l2.length ≤ c2) (hi1 : -9223372036854775808 ≤ a1 ∧ a1 ≤ 9223372036854775807) (he0 : ∀ y ∈ l0, (KReads.InI y.f0 ∧ KReads.InI y.f1 ∧ KReads.InI y.f2)) (he2 : ∀ y ∈ l2, KReads.InI y) :
    Calls Try.prog 9 #[.slice A0 l0.length c0, .int .i64 a1, .slice A2 l2.length c2] w fun e w' => e = .returned (.bool true) ∧ Below w.heap.size w w' := by
  have HR0 := Aside0.mk hr0
  have HC0 := Aside0.mk hc0
  have HM0 := Aside0.mk (Kd.C_max hr0)
  have HR2 := Aside0.mk hr2
  have HC2 := Aside0.mk hc2
  have HM2 := Aside0.mk (Kd.C_max hr2)
  clear hr0 hc0 hr2 hc2
  by_cases hn2 : l2.length ≤ 1048576
  rotate_left
  · have hn_ := hn2
    have cl2 : decide (1048576 < l2.length) = true := decide_eq_true (by omega)
    clear hn_
    go_enter Try.func9, Try.ntmps9
    go_wp2_with fail
    go_ret
    exact ⟨rfl, (by repeat (first | (with_reducible first | exact Below.refl _ _ | apply below_alloc | apply pw_below_drewN | apply below_drew1) | exact Below.refl _ _))⟩
  by_cases hn0 : l0.length ≤ 1048576
  rotate_left
  · have hn_ := hn0
    have cl2 : decide (1048576 < l2.length) = false := decide_eq_false (by omega)
    have E0 := Aside0.mk ((szClaimS_eq l0 HM0.out).trans (congrArg some (if_neg hn0)))
    clear hn_
    go_enter Try.func9, Try.ntmps9
    go_wp2_with (go_at_call 13; refine (laws_szClaimS.calls _ _ l0 1048576 _ _ (by repeat (first | exact HR0.out | (with_reducible refine Kd.C_alloc ?_ _) | (with_reducible refine Kd.C_drewN ?_ _) | (with_reducible refine Kd.C_drew ?_))) HC0.out E0.out).mono ?_; rintro e w0_ ⟨rfl, ⟨q, rfl⟩⟩)
    go_ret
    exact ⟨rfl, (by repeat (first | (with_reducible first | exact Below.refl _ _ | apply below_alloc | apply pw_below_drewN | apply below_drew1) | exact Below.refl _ _))⟩
  have cl2 : decide (1048576 < l2.length) = false := decide_eq_false (by omega)
  have E0 := Aside0.mk ((szClaimS_eq l0 HM0.out).trans (congrArg some (if_pos hn0)))
  have cs0 : decide (1048576 - (l0.length : Int) < 0) = false := decide_eq_false (by omega)
  obtain ⟨L0, eL0⟩ : ∃ L_ : List S54, L_ = l0.map cv_Claim := ⟨_, rfl⟩
  have hv0 : L0.length ≤ 1048576 := by rw [eL0]; simpa using hn0
  have EL0 := Aside0.mk eL0
  clear eL0
  have hv2 := hn2
  have HL0 := Aside0.mk (show ((togA L0 a1 l2).1).length ≤ 1048576 from by have h_ := togA_len L0 a1 l2; omega)
  have HB0 := Aside0.mk (Below.refl w.heap.size w)
  obtain ⟨kX0, hX0⟩ := roundsOf (toClaimS_ev l0 hn0)
  rw [← EL0.out] at hX0
  have X0 := Aside0.mk hX0
  clear hX0
  obtain ⟨kX1, hX1⟩ := roundsOf (toIntS_ev l2 hn2)
  have X1 := Aside0.mk hX1
  clear hX1
  obtain ⟨kX2, hX2⟩ := roundsOf (eqIntS_ev (togA L0 a1 l2).1 (by have h_ := HL0.out; omega))
  have X2 := Aside0.mk hX2
  clear hX2
  obtain ⟨kX3, hX3⟩ := roundsOf (eqClaimS_ev L0 (by have h_ := hv0; omega))
  have X3 := Aside0.mk hX3
  clear hX3
  obtain ⟨kX4, hX4⟩ := roundsOf (eqIntS_ev l2 (by have h_ := hv2; omega))
  have X4 := Aside0.mk hX4
  clear hX4
  obtain ⟨kX5, hX5⟩ := roundsOf (markClaimS_ev L0 1 (by omega) (by have h_ := hv0; omega) (by have h_ := hv0; omega))
  obtain ⟨mX5, eX5⟩ : ∃ m_ : Int, m_ = 1 + 3 * ((L0).length : Int) := ⟨_, rfl⟩
  rw [← eX5] at hX5
  obtain ⟨UX5, uX5⟩ : ∃ U_ : List S54, U_ = upS_Claim (L0).length 1 := ⟨_, rfl⟩
  rw [← uX5] at hX5
  have VX5 := Aside0.mk (show UX5.length = (L0).length from by rw [uX5, upS_Claim_length])
  have ZX5 := Aside0.mk uX5
  clear uX5
  have cX5 : decide (mX5 < 0) = false := decide_eq_false (by omega)
  have PX5 := Aside0.mk (show 0 ≤ mX5 ∧ mX5 ≤ 1 + 8388608 from by have h_ := hv0; omega)
  have MX5 := Aside0.mk eX5
  clear eX5
  have X5 := Aside0.mk hX5
  clear hX5
  obtain ⟨kX6, hX6⟩ := roundsOf (markIntS_ev l2 mX5 (by have p_ := PX5.out; omega) (by have p_ := PX5.out; have h_ := hv2; omega) (by have h_ := hv2; omega))
  obtain ⟨mX6, eX6⟩ : ∃ m_ : Int, m_ = mX5 + ((l2).length : Int) := ⟨_, rfl⟩
  rw [← eX6] at hX6
  obtain ⟨UX6, uX6⟩ : ∃ U_ : List Int, U_ = upFrom (l2).length mX5 := ⟨_, rfl⟩
  rw [← uX6] at hX6
  have VX6 := Aside0.mk (show UX6.length = (l2).length from by rw [uX6, upFrom_length])
  have ZX6 := Aside0.mk uX6
  clear uX6
  have cX6 : decide (mX6 < 0) = false := decide_eq_false (by have p_ := PX5.out; omega)
  have PX6 := Aside0.mk (show 0 ≤ mX6 ∧ mX6 ≤ mX5 + 8388608 from by have p_ := PX5.out; have h_ := hv2; omega)
  have MX6 := Aside0.mk eX6
  clear eX6
  have X6 := Aside0.mk hX6
  clear hX6
  obtain ⟨kX7, hX7⟩ := roundsOf (markIntS_ev (togA L0 a1 l2).1 1 (by omega) (by have h_ := HL0.out; omega) (by have h_ := HL0.out; omega))
  obtain ⟨mX7, eX7⟩ : ∃ m_ : Int, m_ = 1 + (((togA L0 a1 l2).1).length : Int) := ⟨_, rfl⟩
  rw [← eX7] at hX7
  obtain ⟨UX7, uX7⟩ : ∃ U_ : List Int, U_ = upFrom ((togA L0 a1 l2).1).length 1 := ⟨_, rfl⟩
  rw [← uX7] at hX7
  have VX7 := Aside0.mk (show UX7.length = ((togA L0 a1 l2).1).length from by rw [uX7, upFrom_length])
  have ZX7 := Aside0.mk uX7
  clear uX7
  have cX7 : decide (mX7 < 0) = false := decide_eq_false (by omega)
  have PX7 := Aside0.mk (show 0 ≤ mX7 ∧ mX7 ≤ 1 + 8388608 from by have h_ := HL0.out; omega)
  have MX7 := Aside0.mk eX7
  clear eX7
  have X7 := Aside0.mk hX7
  clear hX7
  obtain ⟨kX8, hX8⟩ := roundsOf (heldIntS_ev ((togA L0 a1 l2).1).length 1 (by omega) (by have h_ := HL0.out; omega) (by have h_ := HL0.out; omega))
  rw [← MX7.out, ← ZX7.out] at hX8
  have X8 := Aside0.mk hX8
  clear hX8
  go_enter Try.func9, Try.ntmps9
  go_wp2_with (go_at_call 13; refine (laws_szClaimS.calls _ _ l0 1048576 _ _ (by repeat (first | exact HR0.out | (with_reducible refine Kd.C_alloc ?_ _) | (with_reducible refine Kd.C_drewN ?_ _) | (with_reducible refine Kd.C_drew ?_))) HC0.out E0.out).mono ?_; rintro e w0_ ⟨rfl, ⟨q, rfl⟩⟩)
  refine (laws_toClaimS.calls kX0 _ _ l0 _ _ (by repeat (first | exact (Kd.C_below HR0.out HB0.out) | (with_reducible refine Kd.C_alloc ?_ _) | (with_reducible refine Kd.C_drewN ?_ _) | (with_reducible refine Kd.C_drew ?_))) HC0.out X0.out).mono ?_
  rintro e w1 ⟨v, rfl, ho, hb⟩
  have HB1 := Aside0.mk (below_step (by repeat (first | (with_reducible first | exact HB0.out | apply below_alloc | apply pw_below_drewN | apply below_drew1) | exact HB0.out)) hb)
  have SZ1 := Aside0.mk (show w.heap.size ≤ w1.heap.size from below_size (below_step (by repeat (first | (with_reducible first | exact Below.refl _ _ | apply below_alloc | apply pw_below_drewN | apply below_drew1) | exact Below.refl _ _)) hb))
  have HOt1 := Aside0.mk (R_ivw (a := w.heap.size) (b := w.heap.size) ho (below_size (by repeat (first | (with_reducible first | exact Below.refl _ _ | apply below_alloc | apply pw_below_drewN | apply below_drew1) | exact Below.refl _ _))) (below_size (by repeat (first | (with_reducible first | exact HB0.out | apply below_alloc | apply pw_below_drewN | apply below_drew1) | exact HB0.out))))
  obtain ⟨Art1, crt1, ert1⟩ := Kd.R_slice HOt1.out
  subst ert1
  clear ho hb
  go_wp2_with fail
  refine (laws_toIntS.calls kX1 _ _ l2 _ _ (by repeat (first | exact (Kd.C_below HR2.out HB1.out) | (with_reducible refine Kd.C_alloc ?_ _) | (with_reducible refine Kd.C_drewN ?_ _) | (with_reducible refine Kd.C_drew ?_))) HC2.out X1.out).mono ?_
  rintro e w2 ⟨v, rfl, ho, hb⟩
  have n_ := Aside0.mk (Kd.R_below (by (with_reducible repeat (first | apply Kd.R_alloc | apply Kd.R_drewN | apply Kd.R_drew)); exact HOt1.out) hb); clear HOt1; have HOt1 := n_; clear n_
  have HB2 := Aside0.mk (below_step (by repeat (first | (with_reducible first | exact HB1.out | apply below_alloc | apply pw_below_drewN | apply below_drew1) | exact HB1.out)) hb)
  have SZ2 := Aside0.mk (show w1.heap.size ≤ w2.heap.size from below_size (below_step (by repeat (first | (with_reducible first | exact Below.refl _ _ | apply below_alloc | apply pw_below_drewN | apply below_drew1) | exact Below.refl _ _)) hb))
  have HOt2 := Aside0.mk (R_ivw (a := w1.heap.size) (b := w.heap.size) ho (below_size (by repeat (first | (with_reducible first | exact Below.refl _ _ | apply below_alloc | apply pw_below_drewN | apply below_drew1) | exact Below.refl _ _))) (below_size (by repeat (first | (with_reducible first | exact HB1.out | apply below_alloc | apply pw_below_drewN | apply below_drew1) | exact HB1.out))))
  obtain ⟨Art2, crt2, ert2⟩ := Kd.R_slice HOt2.out
  subst ert2
  clear ho hb
  go_wp2_with fail
  refine (spec_c _ _ L0 a1 _ _ l2 _ (by repeat (first | exact (Kd.R_reads' HOt1.out).2.2 | (with_reducible refine Kd.C_alloc ?_ _) | (with_reducible refine Kd.C_drewN ?_ _) | (with_reducible refine Kd.C_drew ?_))) (Kd.R_reads' HOt1.out).2.1 (fun hp => R_head HOt1.out hp) hv0 (by repeat (first | exact (Kd.R_reads' HOt2.out).2.2 | (with_reducible refine Kd.C_alloc ?_ _) | (with_reducible refine Kd.C_drewN ?_ _) | (with_reducible refine Kd.C_drew ?_))) (Kd.R_reads' HOt2.out).2.1 (fun hp => R_head HOt2.out hp) hv2 ).mono ?_
  rintro e w3 ⟨v, rfl, ho, hb⟩
  have n_ := Aside0.mk (Kd.R_below (by (with_reducible repeat (first | apply Kd.R_alloc | apply Kd.R_drewN | apply Kd.R_drew)); exact HOt1.out) hb); clear HOt1; have HOt1 := n_; clear n_
  have n_ := Aside0.mk (Kd.R_below (by (with_reducible repeat (first | apply Kd.R_alloc | apply Kd.R_drewN | apply Kd.R_drew)); exact HOt2.out) hb); clear HOt2; have HOt2 := n_; clear n_
  have HB3 := Aside0.mk (below_step (by repeat (first | (with_reducible first | exact HB2.out | apply below_alloc | apply pw_below_drewN | apply below_drew1) | exact HB2.out)) hb)
  have SZ3 := Aside0.mk (show w2.heap.size ≤ w3.heap.size from below_size (below_step (by repeat (first | (with_reducible first | exact Below.refl _ _ | apply below_alloc | apply pw_below_drewN | apply below_drew1) | exact Below.refl _ _)) hb))
  have HOw0 := Aside0.mk (R_ivw (a := w2.heap.size) (b := w.heap.size) ho (below_size (by repeat (first | (with_reducible first | exact Below.refl _ _ | apply below_alloc | apply pw_below_drewN | apply below_drew1) | exact Below.refl _ _))) (below_size (by repeat (first | (with_reducible first | exact HB2.out | apply below_alloc | apply pw_below_drewN | apply below_drew1) | exact HB2.out))))
  obtain ⟨Arw0, crw0, erw0⟩ := Kd.R_slice HOw0.out
  subst erw0
  clear ho hb
  go_wp2_with fail
  refine (laws_toClaimS.calls kX0 _ _ l0 _ _ (by repeat (first | exact (Kd.C_below HR0.out HB3.out) | (with_reducible refine Kd.C_alloc ?_ _) | (with_reducible refine Kd.C_drewN ?_ _) | (with_reducible refine Kd.C_drew ?_))) HC0.out X0.out).mono ?_
  rintro e w4 ⟨v, rfl, ho, hb⟩
  have n_ := Aside0.mk (Kd.R_below (by (with_reducible repeat (first | apply Kd.R_alloc | apply Kd.R_drewN | apply Kd.R_drew)); exact HOw0.out) hb); clear HOw0; have HOw0 := n_; clear n_
  have HB4 := Aside0.mk (below_step (by repeat (first | (with_reducible first | exact HB3.out | apply below_alloc | apply pw_below_drewN | apply below_drew1) | exact HB3.out)) hb)
  have SZ4 := Aside0.mk (show w3.heap.size ≤ w4.heap.size from below_size (below_step (by repeat (first | (with_reducible first | exact Below.refl _ _ | apply below_alloc | apply pw_below_drewN | apply below_drew1) | exact Below.refl _ _)) hb))
  have HOx0 := Aside0.mk (R_ivw (a := w3.heap.size) (b := w.heap.size) ho (below_size (by repeat (first | (with_reducible first | exact Below.refl _ _ | apply below_alloc | apply pw_below_drewN | apply below_drew1) | exact Below.refl _ _))) (below_size (by repeat (first | (with_reducible first | exact HB3.out | apply below_alloc | apply pw_below_drewN | apply below_drew1) | exact HB3.out))))
  obtain ⟨Arx0, crx0, erx0⟩ := Kd.R_slice HOx0.out
  subst erx0
  clear ho hb
  go_wp2_with fail
  refine (laws_toIntS.calls kX1 _ _ l2 _ _ (by repeat (first | exact (Kd.C_below HR2.out HB4.out) | (with_reducible refine Kd.C_alloc ?_ _) | (with_reducible refine Kd.C_drewN ?_ _) | (with_reducible refine Kd.C_drew ?_))) HC2.out X1.out).mono ?_
  rintro e w5 ⟨v, rfl, ho, hb⟩
  have n_ := Aside0.mk (Kd.R_below (by (with_reducible repeat (first | apply Kd.R_alloc | apply Kd.R_drewN | apply Kd.R_drew)); exact HOw0.out) hb); clear HOw0; have HOw0 := n_; clear n_
  have n_ := Aside0.mk (Kd.R_below (by (with_reducible repeat (first | apply Kd.R_alloc | apply Kd.R_drewN | apply Kd.R_drew)); exact HOx0.out) hb); clear HOx0; have HOx0 := n_; clear n_
  have HB5 := Aside0.mk (below_step (by repeat (first | (with_reducible first | exact HB4.out | apply below_alloc | apply pw_below_drewN | apply below_drew1) | exact HB4.out)) hb)
  have SZ5 := Aside0.mk (show w4.heap.size ≤ w5.heap.size from below_size (below_step (by repeat (first | (with_reducible first | exact Below.refl _ _ | apply below_alloc | apply pw_below_drewN | apply below_drew1) | exact Below.refl _ _)) hb))
  have HOx2 := Aside0.mk (R_ivw (a := w4.heap.size) (b := w.heap.size) ho (below_size (by repeat (first | (with_reducible first | exact Below.refl _ _ | apply below_alloc | apply pw_below_drewN | apply below_drew1) | exact Below.refl _ _))) (below_size (by repeat (first | (with_reducible first | exact HB4.out | apply below_alloc | apply pw_below_drewN | apply below_drew1) | exact HB4.out))))
  obtain ⟨Arx2, crx2, erx2⟩ := Kd.R_slice HOx2.out
  subst erx2
  clear ho hb
  go_wp2_with fail
  refine (impl_c _ _ L0 a1 _ _ l2 _ (by repeat (first | exact (Kd.R_reads' HOx0.out).2.2 | (with_reducible refine Kd.C_alloc ?_ _) | (with_reducible refine Kd.C_drewN ?_ _) | (with_reducible refine Kd.C_drew ?_))) (Kd.R_reads' HOx0.out).2.1 (fun hp => R_head HOx0.out hp) hv0 (by repeat (first | exact (Kd.R_reads' HOx2.out).2.2 | (with_reducible refine Kd.C_alloc ?_ _) | (with_reducible refine Kd.C_drewN ?_ _) | (with_reducible refine Kd.C_drew ?_))) (Kd.R_reads' HOx2.out).2.1 (fun hp => R_head HOx2.out hp) hv2 ).mono ?_
  rintro e w6 ⟨v, rfl, ho, hb⟩
  have n_ := Aside0.mk (Kd.R_below (by (with_reducible repeat (first | apply Kd.R_alloc | apply Kd.R_drewN | apply Kd.R_drew)); exact HOw0.out) hb); clear HOw0; have HOw0 := n_; clear n_
  have n_ := Aside0.mk (Kd.R_below (by (with_reducible repeat (first | apply Kd.R_alloc | apply Kd.R_drewN | apply Kd.R_drew)); exact HOx0.out) hb); clear HOx0; have HOx0 := n_; clear n_
  have n_ := Aside0.mk (Kd.R_below (by (with_reducible repeat (first | apply Kd.R_alloc | apply Kd.R_drewN | apply Kd.R_drew)); exact HOx2.out) hb); clear HOx2; have HOx2 := n_; clear n_
  have HB6 := Aside0.mk (below_step (by repeat (first | (with_reducible first | exact HB5.out | apply below_alloc | apply pw_below_drewN | apply below_drew1) | exact HB5.out)) hb)
  have SZ6 := Aside0.mk (show w5.heap.size ≤ w6.heap.size from below_size (below_step (by repeat (first | (with_reducible first | exact Below.refl _ _ | apply below_alloc | apply pw_below_drewN | apply below_drew1) | exact Below.refl _ _)) hb))
  have HOg0 := Aside0.mk (R_ivw (a := w5.heap.size) (b := w.heap.size) ho (below_size (by repeat (first | (with_reducible first | exact Below.refl _ _ | apply below_alloc | apply pw_below_drewN | apply below_drew1) | exact Below.refl _ _))) (below_size (by repeat (first | (with_reducible first | exact HB5.out | apply below_alloc | apply pw_below_drewN | apply below_drew1) | exact HB5.out))))
  obtain ⟨Arg0, crg0, erg0⟩ := Kd.R_slice HOg0.out
  subst erg0
  clear ho hb
  go_wp2_with fail
  refine (laws_eqIntS.calls kX2 _ _ (togA L0 a1 l2).1 _ _ (togA L0 a1 l2).1 true _ (by repeat (first | exact (Kd.R_reads' HOg0.out).2.2 | (with_reducible refine Kd.C_alloc ?_ _) | (with_reducible refine Kd.C_drewN ?_ _) | (with_reducible refine Kd.C_drew ?_))) (Kd.R_reads' HOg0.out).2.1 (by repeat (first | exact (Kd.R_reads' HOw0.out).2.2 | (with_reducible refine Kd.C_alloc ?_ _) | (with_reducible refine Kd.C_drewN ?_ _) | (with_reducible refine Kd.C_drew ?_))) (Kd.R_reads' HOw0.out).2.1 X2.out).mono ?_
  rintro e w7 ⟨rfl, hb0⟩
  have hb := Drawn0.below hb0
  clear hb0
  have n_ := Aside0.mk (Kd.R_below (by (with_reducible repeat (first | apply Kd.R_alloc | apply Kd.R_drewN | apply Kd.R_drew)); exact HOw0.out) hb); clear HOw0; have HOw0 := n_; clear n_
  have n_ := Aside0.mk (Kd.R_below (by (with_reducible repeat (first | apply Kd.R_alloc | apply Kd.R_drewN | apply Kd.R_drew)); exact HOx0.out) hb); clear HOx0; have HOx0 := n_; clear n_
  have n_ := Aside0.mk (Kd.R_below (by (with_reducible repeat (first | apply Kd.R_alloc | apply Kd.R_drewN | apply Kd.R_drew)); exact HOx2.out) hb); clear HOx2; have HOx2 := n_; clear n_
  have n_ := Aside0.mk (Kd.R_below (by (with_reducible repeat (first | apply Kd.R_alloc | apply Kd.R_drewN | apply Kd.R_drew)); exact HOg0.out) hb); clear HOg0; have HOg0 := n_; clear n_
  have HB7 := Aside0.mk (below_step (by repeat (first | (with_reducible first | exact HB6.out | apply below_alloc | apply pw_below_drewN | apply below_drew1) | exact HB6.out)) hb)
  have SZ7 := Aside0.mk (show w6.heap.size ≤ w7.heap.size from below_size (below_step (by repeat (first | (with_reducible first | exact Below.refl _ _ | apply below_alloc | apply pw_below_drewN | apply below_drew1) | exact Below.refl _ _)) hb))
  clear hb
  go_wp2_with fail
  refine (laws_toClaimS.calls kX0 _ _ l0 _ _ (by repeat (first | exact (Kd.C_below HR0.out HB7.out) | (with_reducible refine Kd.C_alloc ?_ _) | (with_reducible refine Kd.C_drewN ?_ _) | (with_reducible refine Kd.C_drew ?_))) HC0.out X0.out).mono ?_
  rintro e w8 ⟨v, rfl, ho, hb⟩
  have n_ := Aside0.mk (Kd.R_below (by (with_reducible repeat (first | apply Kd.R_alloc | apply Kd.R_drewN | apply Kd.R_drew)); exact HOw0.out) hb); clear HOw0; have HOw0 := n_; clear n_
  have n_ := Aside0.mk (Kd.R_below (by (with_reducible repeat (first | apply Kd.R_alloc | apply Kd.R_drewN | apply Kd.R_drew)); exact HOx0.out) hb); clear HOx0; have HOx0 := n_; clear n_
  have n_ := Aside0.mk (Kd.R_below (by (with_reducible repeat (first | apply Kd.R_alloc | apply Kd.R_drewN | apply Kd.R_drew)); exact HOx2.out) hb); clear HOx2; have HOx2 := n_; clear n_
  have n_ := Aside0.mk (Kd.R_below (by (with_reducible repeat (first | apply Kd.R_alloc | apply Kd.R_drewN | apply Kd.R_drew)); exact HOg0.out) hb); clear HOg0; have HOg0 := n_; clear n_
  have HB8 := Aside0.mk (below_step (by repeat (first | (with_reducible first | exact HB7.out | apply below_alloc | apply pw_below_drewN | apply below_drew1) | exact HB7.out)) hb)
  have SZ8 := Aside0.mk (show w7.heap.size ≤ w8.heap.size from below_size (below_step (by repeat (first | (with_reducible first | exact Below.refl _ _ | apply below_alloc | apply pw_below_drewN | apply below_drew1) | exact Below.refl _ _)) hb))
  have HOt3 := Aside0.mk (R_ivw (a := w7.heap.size) (b := w.heap.size) ho (below_size (by repeat (first | (with_reducible first | exact Below.refl _ _ | apply below_alloc | apply pw_below_drewN | apply below_drew1) | exact Below.refl _ _))) (below_size (by repeat (first | (with_reducible first | exact HB7.out | apply below_alloc | apply pw_below_drewN | apply below_drew1) | exact HB7.out))))
  obtain ⟨Art3, crt3, ert3⟩ := Kd.R_slice HOt3.out
  subst ert3
  clear ho hb
  go_wp2_with fail
  refine (laws_eqClaimS.calls kX3 _ _ L0 _ _ L0 true _ (by repeat (first | exact (Kd.R_reads' HOx0.out).2.2 | (with_reducible refine Kd.C_alloc ?_ _) | (with_reducible refine Kd.C_drewN ?_ _) | (with_reducible refine Kd.C_drew ?_))) (Kd.R_reads' HOx0.out).2.1 (by repeat (first | exact (Kd.R_reads' HOt3.out).2.2 | (with_reducible refine Kd.C_alloc ?_ _) | (with_reducible refine Kd.C_drewN ?_ _) | (with_reducible refine Kd.C_drew ?_))) (Kd.R_reads' HOt3.out).2.1 X3.out).mono ?_
  rintro e w9 ⟨rfl, hb⟩
  have n_ := Aside0.mk (Kd.R_below (by (with_reducible repeat (first | apply Kd.R_alloc | apply Kd.R_drewN | apply Kd.R_drew)); exact HOw0.out) hb); clear HOw0; have HOw0 := n_; clear n_
  have n_ := Aside0.mk (Kd.R_below (by (with_reducible repeat (first | apply Kd.R_alloc | apply Kd.R_drewN | apply Kd.R_drew)); exact HOx0.out) hb); clear HOx0; have HOx0 := n_; clear n_
  have n_ := Aside0.mk (Kd.R_below (by (with_reducible repeat (first | apply Kd.R_alloc | apply Kd.R_drewN | apply Kd.R_drew)); exact HOx2.out) hb); clear HOx2; have HOx2 := n_; clear n_
  have n_ := Aside0.mk (Kd.R_below (by (with_reducible repeat (first | apply Kd.R_alloc | apply Kd.R_drewN | apply Kd.R_drew)); exact HOg0.out) hb); clear HOg0; have HOg0 := n_; clear n_
  have n_ := Aside0.mk (Kd.R_below (by (with_reducible repeat (first | apply Kd.R_alloc | apply Kd.R_drewN | apply Kd.R_drew)); exact HOt3.out) hb); clear HOt3; have HOt3 := n_; clear n_
  have HB9 := Aside0.mk (below_step (by repeat (first | (with_reducible first | exact HB8.out | apply below_alloc | apply pw_below_drewN | apply below_drew1) | exact HB8.out)) hb)
  have SZ9 := Aside0.mk (show w8.heap.size ≤ w9.heap.size from below_size (below_step (by repeat (first | (with_reducible first | exact Below.refl _ _ | apply below_alloc | apply pw_below_drewN | apply below_drew1) | exact Below.refl _ _)) hb))
  clear hb
  go_wp2_with fail
  refine (laws_toIntS.calls kX1 _ _ l2 _ _ (by repeat (first | exact (Kd.C_below HR2.out HB9.out) | (with_reducible refine Kd.C_alloc ?_ _) | (with_reducible refine Kd.C_drewN ?_ _) | (with_reducible refine Kd.C_drew ?_))) HC2.out X1.out).mono ?_
  rintro e w10 ⟨v, rfl, ho, hb⟩
  have n_ := Aside0.mk (Kd.R_below (by (with_reducible repeat (first | apply Kd.R_alloc | apply Kd.R_drewN | apply Kd.R_drew)); exact HOw0.out) hb); clear HOw0; have HOw0 := n_; clear n_
  have n_ := Aside0.mk (Kd.R_below (by (with_reducible repeat (first | apply Kd.R_alloc | apply Kd.R_drewN | apply Kd.R_drew)); exact HOx0.out) hb); clear HOx0; have HOx0 := n_; clear n_
  have n_ := Aside0.mk (Kd.R_below (by (with_reducible repeat (first | apply Kd.R_alloc | apply Kd.R_drewN | apply Kd.R_drew)); exact HOx2.out) hb); clear HOx2; have HOx2 := n_; clear n_
  have n_ := Aside0.mk (Kd.R_below (by (with_reducible repeat (first | apply Kd.R_alloc | apply Kd.R_drewN | apply Kd.R_drew)); exact HOg0.out) hb); clear HOg0; have HOg0 := n_; clear n_
  have HB10 := Aside0.mk (below_step (by repeat (first | (with_reducible first | exact HB9.out | apply below_alloc | apply pw_below_drewN | apply below_drew1) | exact HB9.out)) hb)
  have SZ10 := Aside0.mk (show w9.heap.size ≤ w10.heap.size from below_size (below_step (by repeat (first | (with_reducible first | exact Below.refl _ _ | apply below_alloc | apply pw_below_drewN | apply below_drew1) | exact Below.refl _ _)) hb))
  have HOt4 := Aside0.mk (R_ivw (a := w9.heap.size) (b := w.heap.size) ho (below_size (by repeat (first | (with_reducible first | exact Below.refl _ _ | apply below_alloc | apply pw_below_drewN | apply below_drew1) | exact Below.refl _ _))) (below_size (by repeat (first | (with_reducible first | exact HB9.out | apply below_alloc | apply pw_below_drewN | apply below_drew1) | exact HB9.out))))
  obtain ⟨Art4, crt4, ert4⟩ := Kd.R_slice HOt4.out
  subst ert4
  clear ho hb
  go_wp2_with fail
  refine (laws_eqIntS.calls kX4 _ _ l2 _ _ l2 true _ (by repeat (first | exact (Kd.R_reads' HOx2.out).2.2 | (with_reducible refine Kd.C_alloc ?_ _) | (with_reducible refine Kd.C_drewN ?_ _) | (with_reducible refine Kd.C_drew ?_))) (Kd.R_reads' HOx2.out).2.1 (by repeat (first | exact (Kd.R_reads' HOt4.out).2.2 | (with_reducible refine Kd.C_alloc ?_ _) | (with_reducible refine Kd.C_drewN ?_ _) | (with_reducible refine Kd.C_drew ?_))) (Kd.R_reads' HOt4.out).2.1 X4.out).mono ?_
  rintro e w11 ⟨rfl, hb0⟩
  have hb := Drawn0.below hb0
  clear hb0
  have n_ := Aside0.mk (Kd.R_below (by (with_reducible repeat (first | apply Kd.R_alloc | apply Kd.R_drewN | apply Kd.R_drew)); exact HOw0.out) hb); clear HOw0; have HOw0 := n_; clear n_
  have n_ := Aside0.mk (Kd.R_below (by (with_reducible repeat (first | apply Kd.R_alloc | apply Kd.R_drewN | apply Kd.R_drew)); exact HOx0.out) hb); clear HOx0; have HOx0 := n_; clear n_
  have n_ := Aside0.mk (Kd.R_below (by (with_reducible repeat (first | apply Kd.R_alloc | apply Kd.R_drewN | apply Kd.R_drew)); exact HOx2.out) hb); clear HOx2; have HOx2 := n_; clear n_
  have n_ := Aside0.mk (Kd.R_below (by (with_reducible repeat (first | apply Kd.R_alloc | apply Kd.R_drewN | apply Kd.R_drew)); exact HOg0.out) hb); clear HOg0; have HOg0 := n_; clear n_
  have n_ := Aside0.mk (Kd.R_below (by (with_reducible repeat (first | apply Kd.R_alloc | apply Kd.R_drewN | apply Kd.R_drew)); exact HOt4.out) hb); clear HOt4; have HOt4 := n_; clear n_
  have HB11 := Aside0.mk (below_step (by repeat (first | (with_reducible first | exact HB10.out | apply below_alloc | apply pw_below_drewN | apply below_drew1) | exact HB10.out)) hb)
  have SZ11 := Aside0.mk (show w10.heap.size ≤ w11.heap.size from below_size (below_step (by repeat (first | (with_reducible first | exact Below.refl _ _ | apply below_alloc | apply pw_below_drewN | apply below_drew1) | exact Below.refl _ _)) hb))
  clear hb
  go_wp2_with fail
  refine (laws_markClaimS.calls kX5 (Iv w3.heap.size w4.heap.size) _ L0 1 _ _ w _ (by repeat (first | (with_reducible first | exact HB11.out | apply below_alloc | apply pw_below_drewN | apply below_drew1) | exact HB11.out)) (by (with_reducible repeat (first | apply Kd.R_alloc | apply Kd.R_drewN | apply Kd.R_drew)); exact HOx0.out) X5.out).mono ?_
  rintro e w12 ⟨rfl, ho, hb, hk⟩
  have n_ := Aside0.mk (Kd.R_kept (by (with_reducible repeat (first | apply Kd.R_alloc | apply Kd.R_drewN | apply Kd.R_drew)); exact HOw0.out) hk (fun k h1_ h2_ => by have a_ := h1_.1; have b_ := h1_.2; have c_ := h2_.1; have d_ := h2_.2; have SZ1_ := SZ1.out; have SZ2_ := SZ2.out; have SZ3_ := SZ3.out; have SZ4_ := SZ4.out; have SZ5_ := SZ5.out; have SZ6_ := SZ6.out; have SZ7_ := SZ7.out; have SZ8_ := SZ8.out; have SZ9_ := SZ9.out; have SZ10_ := SZ10.out; have SZ11_ := SZ11.out; omega)); clear HOw0; have HOw0 := n_; clear n_
  have n_ := Aside0.mk (Kd.R_kept (by (with_reducible repeat (first | apply Kd.R_alloc | apply Kd.R_drewN | apply Kd.R_drew)); exact HOx2.out) hk (fun k h1_ h2_ => by have a_ := h1_.1; have b_ := h1_.2; have c_ := h2_.1; have d_ := h2_.2; have SZ1_ := SZ1.out; have SZ2_ := SZ2.out; have SZ3_ := SZ3.out; have SZ4_ := SZ4.out; have SZ5_ := SZ5.out; have SZ6_ := SZ6.out; have SZ7_ := SZ7.out; have SZ8_ := SZ8.out; have SZ9_ := SZ9.out; have SZ10_ := SZ10.out; have SZ11_ := SZ11.out; omega)); clear HOx2; have HOx2 := n_; clear n_
  have n_ := Aside0.mk (Kd.R_kept (by (with_reducible repeat (first | apply Kd.R_alloc | apply Kd.R_drewN | apply Kd.R_drew)); exact HOg0.out) hk (fun k h1_ h2_ => by have a_ := h1_.1; have b_ := h1_.2; have c_ := h2_.1; have d_ := h2_.2; have SZ1_ := SZ1.out; have SZ2_ := SZ2.out; have SZ3_ := SZ3.out; have SZ4_ := SZ4.out; have SZ5_ := SZ5.out; have SZ6_ := SZ6.out; have SZ7_ := SZ7.out; have SZ8_ := SZ8.out; have SZ9_ := SZ9.out; have SZ10_ := SZ10.out; have SZ11_ := SZ11.out; omega)); clear HOg0; have HOg0 := n_; clear n_
  have HB12 := Aside0.mk hb
  have SZ12 := Aside0.mk (show w11.heap.size ≤ w12.heap.size from hk.1)
  have n_ := Aside0.mk (R_flat flat_Claim ho HOx0.out.1); clear HOx0; have HOx0 := n_; clear n_
  clear ho hb hk
  go_wp2_with fail
  refine (laws_markIntS.calls kX6 (Iv w4.heap.size w5.heap.size) _ l2 mX5 _ _ w _ (by repeat (first | (with_reducible first | exact HB12.out | apply below_alloc | apply pw_below_drewN | apply below_drew1) | exact HB12.out)) (by (with_reducible repeat (first | apply Kd.R_alloc | apply Kd.R_drewN | apply Kd.R_drew)); exact HOx2.out) X6.out).mono ?_
  rintro e w13 ⟨rfl, ho, hb, hk⟩
  have n_ := Aside0.mk (Kd.R_kept (by (with_reducible repeat (first | apply Kd.R_alloc | apply Kd.R_drewN | apply Kd.R_drew)); exact HOw0.out) hk (fun k h1_ h2_ => by have a_ := h1_.1; have b_ := h1_.2; have c_ := h2_.1; have d_ := h2_.2; have SZ1_ := SZ1.out; have SZ2_ := SZ2.out; have SZ3_ := SZ3.out; have SZ4_ := SZ4.out; have SZ5_ := SZ5.out; have SZ6_ := SZ6.out; have SZ7_ := SZ7.out; have SZ8_ := SZ8.out; have SZ9_ := SZ9.out; have SZ10_ := SZ10.out; have SZ11_ := SZ11.out; have SZ12_ := SZ12.out; omega)); clear HOw0; have HOw0 := n_; clear n_
  have n_ := Aside0.mk (Kd.R_kept (by (with_reducible repeat (first | apply Kd.R_alloc | apply Kd.R_drewN | apply Kd.R_drew)); exact HOx0.out) hk (fun k h1_ h2_ => by have a_ := h1_.1; have b_ := h1_.2; have c_ := h2_.1; have d_ := h2_.2; have SZ1_ := SZ1.out; have SZ2_ := SZ2.out; have SZ3_ := SZ3.out; have SZ4_ := SZ4.out; have SZ5_ := SZ5.out; have SZ6_ := SZ6.out; have SZ7_ := SZ7.out; have SZ8_ := SZ8.out; have SZ9_ := SZ9.out; have SZ10_ := SZ10.out; have SZ11_ := SZ11.out; have SZ12_ := SZ12.out; omega)); clear HOx0; have HOx0 := n_; clear n_
  have n_ := Aside0.mk (Kd.R_kept (by (with_reducible repeat (first | apply Kd.R_alloc | apply Kd.R_drewN | apply Kd.R_drew)); exact HOg0.out) hk (fun k h1_ h2_ => by have a_ := h1_.1; have b_ := h1_.2; have c_ := h2_.1; have d_ := h2_.2; have SZ1_ := SZ1.out; have SZ2_ := SZ2.out; have SZ3_ := SZ3.out; have SZ4_ := SZ4.out; have SZ5_ := SZ5.out; have SZ6_ := SZ6.out; have SZ7_ := SZ7.out; have SZ8_ := SZ8.out; have SZ9_ := SZ9.out; have SZ10_ := SZ10.out; have SZ11_ := SZ11.out; have SZ12_ := SZ12.out; omega)); clear HOg0; have HOg0 := n_; clear n_
  have HB13 := Aside0.mk hb
  have SZ13 := Aside0.mk (show w12.heap.size ≤ w13.heap.size from hk.1)
  have n_ := Aside0.mk (R_flat flat_int ho HOx2.out.1); clear HOx2; have HOx2 := n_; clear n_
  clear ho hb hk
  go_wp2_with fail
  refine (laws_eqIntS.calls kX2 _ _ (togA L0 a1 l2).1 _ _ (togA L0 a1 l2).1 true _ (by repeat (first | exact (Kd.R_reads' HOg0.out).2.2 | (with_reducible refine Kd.C_alloc ?_ _) | (with_reducible refine Kd.C_drewN ?_ _) | (with_reducible refine Kd.C_drew ?_))) (Kd.R_reads' HOg0.out).2.1 (by repeat (first | exact (Kd.R_reads' HOw0.out).2.2 | (with_reducible refine Kd.C_alloc ?_ _) | (with_reducible refine Kd.C_drewN ?_ _) | (with_reducible refine Kd.C_drew ?_))) (Kd.R_reads' HOw0.out).2.1 X2.out).mono ?_
  rintro e w14 ⟨rfl, hb0⟩
  have hb := Drawn0.below hb0
  clear hb0
  have n_ := Aside0.mk (Kd.R_below (by (with_reducible repeat (first | apply Kd.R_alloc | apply Kd.R_drewN | apply Kd.R_drew)); exact HOw0.out) hb); clear HOw0; have HOw0 := n_; clear n_
  have n_ := Aside0.mk (Kd.R_below (by (with_reducible repeat (first | apply Kd.R_alloc | apply Kd.R_drewN | apply Kd.R_drew)); exact HOx0.out) hb); clear HOx0; have HOx0 := n_; clear n_
  have n_ := Aside0.mk (Kd.R_below (by (with_reducible repeat (first | apply Kd.R_alloc | apply Kd.R_drewN | apply Kd.R_drew)); exact HOx2.out) hb); clear HOx2; have HOx2 := n_; clear n_
  have n_ := Aside0.mk (Kd.R_below (by (with_reducible repeat (first | apply Kd.R_alloc | apply Kd.R_drewN | apply Kd.R_drew)); exact HOg0.out) hb); clear HOg0; have HOg0 := n_; clear n_
  have HB14 := Aside0.mk (below_step (by repeat (first | (with_reducible first | exact HB13.out | apply below_alloc | apply pw_below_drewN | apply below_drew1) | exact HB13.out)) hb)
  have SZ14 := Aside0.mk (show w13.heap.size ≤ w14.heap.size from below_size (below_step (by repeat (first | (with_reducible first | exact Below.refl _ _ | apply below_alloc | apply pw_below_drewN | apply below_drew1) | exact Below.refl _ _)) hb))
  clear hb
  go_wp2_with fail
  refine (laws_markIntS.calls kX7 (Iv w5.heap.size w6.heap.size) _ (togA L0 a1 l2).1 1 _ _ w _ (by repeat (first | (with_reducible first | exact HB14.out | apply below_alloc | apply pw_below_drewN | apply below_drew1) | exact HB14.out)) (by (with_reducible repeat (first | apply Kd.R_alloc | apply Kd.R_drewN | apply Kd.R_drew)); exact HOg0.out) X7.out).mono ?_
  rintro e w15 ⟨rfl, ho, hb, hk⟩
  have n_ := Aside0.mk (Kd.R_kept (by (with_reducible repeat (first | apply Kd.R_alloc | apply Kd.R_drewN | apply Kd.R_drew)); exact HOw0.out) hk (fun k h1_ h2_ => by have a_ := h1_.1; have b_ := h1_.2; have c_ := h2_.1; have d_ := h2_.2; have SZ1_ := SZ1.out; have SZ2_ := SZ2.out; have SZ3_ := SZ3.out; have SZ4_ := SZ4.out; have SZ5_ := SZ5.out; have SZ6_ := SZ6.out; have SZ7_ := SZ7.out; have SZ8_ := SZ8.out; have SZ9_ := SZ9.out; have SZ10_ := SZ10.out; have SZ11_ := SZ11.out; have SZ12_ := SZ12.out; have SZ13_ := SZ13.out; have SZ14_ := SZ14.out; omega)); clear HOw0; have HOw0 := n_; clear n_
  have n_ := Aside0.mk (Kd.R_kept (by (with_reducible repeat (first | apply Kd.R_alloc | apply Kd.R_drewN | apply Kd.R_drew)); exact HOx0.out) hk (fun k h1_ h2_ => by have a_ := h1_.1; have b_ := h1_.2; have c_ := h2_.1; have d_ := h2_.2; have SZ1_ := SZ1.out; have SZ2_ := SZ2.out; have SZ3_ := SZ3.out; have SZ4_ := SZ4.out; have SZ5_ := SZ5.out; have SZ6_ := SZ6.out; have SZ7_ := SZ7.out; have SZ8_ := SZ8.out; have SZ9_ := SZ9.out; have SZ10_ := SZ10.out; have SZ11_ := SZ11.out; have SZ12_ := SZ12.out; have SZ13_ := SZ13.out; have SZ14_ := SZ14.out; omega)); clear HOx0; have HOx0 := n_; clear n_
  have n_ := Aside0.mk (Kd.R_kept (by (with_reducible repeat (first | apply Kd.R_alloc | apply Kd.R_drewN | apply Kd.R_drew)); exact HOx2.out) hk (fun k h1_ h2_ => by have a_ := h1_.1; have b_ := h1_.2; have c_ := h2_.1; have d_ := h2_.2; have SZ1_ := SZ1.out; have SZ2_ := SZ2.out; have SZ3_ := SZ3.out; have SZ4_ := SZ4.out; have SZ5_ := SZ5.out; have SZ6_ := SZ6.out; have SZ7_ := SZ7.out; have SZ8_ := SZ8.out; have SZ9_ := SZ9.out; have SZ10_ := SZ10.out; have SZ11_ := SZ11.out; have SZ12_ := SZ12.out; have SZ13_ := SZ13.out; have SZ14_ := SZ14.out; omega)); clear HOx2; have HOx2 := n_; clear n_
  have HB15 := Aside0.mk hb
  have SZ15 := Aside0.mk (show w14.heap.size ≤ w15.heap.size from hk.1)
  have n_ := Aside0.mk (R_flat flat_int ho HOg0.out.1); clear HOg0; have HOg0 := n_; clear n_
  clear ho hb hk
  go_wp2_with fail
  refine calls_of_args (args' := #[.slice Arg0 UX7.length crg0, .int .i64 1]) (by rw [VX7.out]) ?_
  refine (laws_heldIntS.calls kX8 _ _ UX7 1 _ _ (by repeat (first | exact (Kd.R_reads' HOg0.out).2.2 | (with_reducible refine Kd.C_alloc ?_ _) | (with_reducible refine Kd.C_drewN ?_ _) | (with_reducible refine Kd.C_drew ?_))) (by rw [VX7.out]; exact (Kd.R_reads' HOg0.out).2.1) X8.out).mono ?_
  rintro e w16 ⟨rfl, hb0⟩
  have hb := Drawn0.below hb0
  clear hb0
  have n_ := Aside0.mk (Kd.R_below (by (with_reducible repeat (first | apply Kd.R_alloc | apply Kd.R_drewN | apply Kd.R_drew)); exact HOw0.out) hb); clear HOw0; have HOw0 := n_; clear n_
  have n_ := Aside0.mk (Kd.R_below (by (with_reducible repeat (first | apply Kd.R_alloc | apply Kd.R_drewN | apply Kd.R_drew)); exact HOx0.out) hb); clear HOx0; have HOx0 := n_; clear n_
  have n_ := Aside0.mk (Kd.R_below (by (with_reducible repeat (first | apply Kd.R_alloc | apply Kd.R_drewN | apply Kd.R_drew)); exact HOx2.out) hb); clear HOx2; have HOx2 := n_; clear n_
  have n_ := Aside0.mk (Kd.R_below (by (with_reducible repeat (first | apply Kd.R_alloc | apply Kd.R_drewN | apply Kd.R_drew)); exact HOg0.out) hb); clear HOg0; have HOg0 := n_; clear n_
  have HB16 := Aside0.mk (below_step (by repeat (first | (with_reducible first | exact HB15.out | apply below_alloc | apply pw_below_drewN | apply below_drew1) | exact HB15.out)) hb)
  have SZ16 := Aside0.mk (show w15.heap.size ≤ w16.heap.size from below_size (below_step (by repeat (first | (with_reducible first | exact Below.refl _ _ | apply below_alloc | apply pw_below_drewN | apply below_drew1) | exact Below.refl _ _)) hb))
  clear hb
  go_wp2_with fail
  refine (laws_toClaimS.calls kX0 _ _ l0 _ _ (by repeat (first | exact (Kd.C_below HR0.out HB16.out) | (with_reducible refine Kd.C_alloc ?_ _) | (with_reducible refine Kd.C_drewN ?_ _) | (with_reducible refine Kd.C_drew ?_))) HC0.out X0.out).mono ?_
  rintro e w17 ⟨v, rfl, ho, hb⟩
  have n_ := Aside0.mk (Kd.R_below (by (with_reducible repeat (first | apply Kd.R_alloc | apply Kd.R_drewN | apply Kd.R_drew)); exact HOw0.out) hb); clear HOw0; have HOw0 := n_; clear n_
  have n_ := Aside0.mk (Kd.R_below (by (with_reducible repeat (first | apply Kd.R_alloc | apply Kd.R_drewN | apply Kd.R_drew)); exact HOx0.out) hb); clear HOx0; have HOx0 := n_; clear n_
  have n_ := Aside0.mk (Kd.R_below (by (with_reducible repeat (first | apply Kd.R_alloc | apply Kd.R_drewN | apply Kd.R_drew)); exact HOx2.out) hb); clear HOx2; have HOx2 := n_; clear n_
  have n_ := Aside0.mk (Kd.R_below (by (with_reducible repeat (first | apply Kd.R_alloc | apply Kd.R_drewN | apply Kd.R_drew)); exact HOg0.out) hb); clear HOg0; have HOg0 := n_; clear n_
  have HB17 := Aside0.mk (below_step (by repeat (first | (with_reducible first | exact HB16.out | apply below_alloc | apply pw_below_drewN | apply below_drew1) | exact HB16.out)) hb)
  have SZ17 := Aside0.mk (show w16.heap.size ≤ w17.heap.size from below_size (below_step (by repeat (first | (with_reducible first | exact Below.refl _ _ | apply below_alloc | apply pw_below_drewN | apply below_drew1) | exact Below.refl _ _)) hb))
  have HOt5 := Aside0.mk (R_ivw (a := w16.heap.size) (b := w.heap.size) ho (below_size (by repeat (first | (with_reducible first | exact Below.refl _ _ | apply below_alloc | apply pw_below_drewN | apply below_drew1) | exact Below.refl _ _))) (below_size (by repeat (first | (with_reducible first | exact HB16.out | apply below_alloc | apply pw_below_drewN | apply below_drew1) | exact HB16.out))))
  obtain ⟨Art5, crt5, ert5⟩ := Kd.R_slice HOt5.out
  subst ert5
  clear ho hb
  go_wp2_with fail
  refine (laws_toIntS.calls kX1 _ _ l2 _ _ (by repeat (first | exact (Kd.C_below HR2.out HB17.out) | (with_reducible refine Kd.C_alloc ?_ _) | (with_reducible refine Kd.C_drewN ?_ _) | (with_reducible refine Kd.C_drew ?_))) HC2.out X1.out).mono ?_
  rintro e w18 ⟨v, rfl, ho, hb⟩
  have n_ := Aside0.mk (Kd.R_below (by (with_reducible repeat (first | apply Kd.R_alloc | apply Kd.R_drewN | apply Kd.R_drew)); exact HOw0.out) hb); clear HOw0; have HOw0 := n_; clear n_
  have n_ := Aside0.mk (Kd.R_below (by (with_reducible repeat (first | apply Kd.R_alloc | apply Kd.R_drewN | apply Kd.R_drew)); exact HOx0.out) hb); clear HOx0; have HOx0 := n_; clear n_
  have n_ := Aside0.mk (Kd.R_below (by (with_reducible repeat (first | apply Kd.R_alloc | apply Kd.R_drewN | apply Kd.R_drew)); exact HOx2.out) hb); clear HOx2; have HOx2 := n_; clear n_
  have n_ := Aside0.mk (Kd.R_below (by (with_reducible repeat (first | apply Kd.R_alloc | apply Kd.R_drewN | apply Kd.R_drew)); exact HOg0.out) hb); clear HOg0; have HOg0 := n_; clear n_
  have n_ := Aside0.mk (Kd.R_below (by (with_reducible repeat (first | apply Kd.R_alloc | apply Kd.R_drewN | apply Kd.R_drew)); exact HOt5.out) hb); clear HOt5; have HOt5 := n_; clear n_
  have HB18 := Aside0.mk (below_step (by repeat (first | (with_reducible first | exact HB17.out | apply below_alloc | apply pw_below_drewN | apply below_drew1) | exact HB17.out)) hb)
  have SZ18 := Aside0.mk (show w17.heap.size ≤ w18.heap.size from below_size (below_step (by repeat (first | (with_reducible first | exact Below.refl _ _ | apply below_alloc | apply pw_below_drewN | apply below_drew1) | exact Below.refl _ _)) hb))
  have HOt6 := Aside0.mk (R_ivw (a := w17.heap.size) (b := w.heap.size) ho (below_size (by repeat (first | (with_reducible first | exact Below.refl _ _ | apply below_alloc | apply pw_below_drewN | apply below_drew1) | exact Below.refl _ _))) (below_size (by repeat (first | (with_reducible first | exact HB17.out | apply below_alloc | apply pw_below_drewN | apply below_drew1) | exact HB17.out))))
  obtain ⟨Art6, crt6, ert6⟩ := Kd.R_slice HOt6.out
  subst ert6
  clear ho hb
  go_wp2_with fail
  refine (impl_c _ _ L0 a1 _ _ l2 _ (by repeat (first | exact (Kd.R_reads' HOt5.out).2.2 | (with_reducible refine Kd.C_alloc ?_ _) | (with_reducible refine Kd.C_drewN ?_ _) | (with_reducible refine Kd.C_drew ?_))) (Kd.R_reads' HOt5.out).2.1 (fun hp => R_head HOt5.out hp) hv0 (by repeat (first | exact (Kd.R_reads' HOt6.out).2.2 | (with_reducible refine Kd.C_alloc ?_ _) | (with_reducible refine Kd.C_drewN ?_ _) | (with_reducible refine Kd.C_drew ?_))) (Kd.R_reads' HOt6.out).2.1 (fun hp => R_head HOt6.out hp) hv2 ).mono ?_
  rintro e w19 ⟨v, rfl, ho, hb⟩
  have n_ := Aside0.mk (Kd.R_below (by (with_reducible repeat (first | apply Kd.R_alloc | apply Kd.R_drewN | apply Kd.R_drew)); exact HOw0.out) hb); clear HOw0; have HOw0 := n_; clear n_
  have n_ := Aside0.mk (Kd.R_below (by (with_reducible repeat (first | apply Kd.R_alloc | apply Kd.R_drewN | apply Kd.R_drew)); exact HOx0.out) hb); clear HOx0; have HOx0 := n_; clear n_
  have n_ := Aside0.mk (Kd.R_below (by (with_reducible repeat (first | apply Kd.R_alloc | apply Kd.R_drewN | apply Kd.R_drew)); exact HOx2.out) hb); clear HOx2; have HOx2 := n_; clear n_
  have n_ := Aside0.mk (Kd.R_below (by (with_reducible repeat (first | apply Kd.R_alloc | apply Kd.R_drewN | apply Kd.R_drew)); exact HOg0.out) hb); clear HOg0; have HOg0 := n_; clear n_
  have n_ := Aside0.mk (Kd.R_below (by (with_reducible repeat (first | apply Kd.R_alloc | apply Kd.R_drewN | apply Kd.R_drew)); exact HOt5.out) hb); clear HOt5; have HOt5 := n_; clear n_
  have n_ := Aside0.mk (Kd.R_below (by (with_reducible repeat (first | apply Kd.R_alloc | apply Kd.R_drewN | apply Kd.R_drew)); exact HOt6.out) hb); clear HOt6; have HOt6 := n_; clear n_
  have HB19 := Aside0.mk (below_step (by repeat (first | (with_reducible first | exact HB18.out | apply below_alloc | apply pw_below_drewN | apply below_drew1) | exact HB18.out)) hb)
  have SZ19 := Aside0.mk (show w18.heap.size ≤ w19.heap.size from below_size (below_step (by repeat (first | (with_reducible first | exact Below.refl _ _ | apply below_alloc | apply pw_below_drewN | apply below_drew1) | exact Below.refl _ _)) hb))
  have HOh0 := Aside0.mk (R_ivw (a := w18.heap.size) (b := w.heap.size) ho (below_size (by repeat (first | (with_reducible first | exact Below.refl _ _ | apply below_alloc | apply pw_below_drewN | apply below_drew1) | exact Below.refl _ _))) (below_size (by repeat (first | (with_reducible first | exact HB18.out | apply below_alloc | apply pw_below_drewN | apply below_drew1) | exact HB18.out))))
  obtain ⟨Arh0, crh0, erh0⟩ := Kd.R_slice HOh0.out
  subst erh0
  clear ho hb
  go_wp2_with fail
  refine (laws_eqIntS.calls kX2 _ _ (togA L0 a1 l2).1 _ _ (togA L0 a1 l2).1 true _ (by repeat (first | exact (Kd.R_reads' HOh0.out).2.2 | (with_reducible refine Kd.C_alloc ?_ _) | (with_reducible refine Kd.C_drewN ?_ _) | (with_reducible refine Kd.C_drew ?_))) (Kd.R_reads' HOh0.out).2.1 (by repeat (first | exact (Kd.R_reads' HOw0.out).2.2 | (with_reducible refine Kd.C_alloc ?_ _) | (with_reducible refine Kd.C_drewN ?_ _) | (with_reducible refine Kd.C_drew ?_))) (Kd.R_reads' HOw0.out).2.1 X2.out).mono ?_
  rintro e w20 ⟨rfl, hb0⟩
  have hb := Drawn0.below hb0
  clear hb0
  have n_ := Aside0.mk (Kd.R_below (by (with_reducible repeat (first | apply Kd.R_alloc | apply Kd.R_drewN | apply Kd.R_drew)); exact HOw0.out) hb); clear HOw0; have HOw0 := n_; clear n_
  have n_ := Aside0.mk (Kd.R_below (by (with_reducible repeat (first | apply Kd.R_alloc | apply Kd.R_drewN | apply Kd.R_drew)); exact HOx0.out) hb); clear HOx0; have HOx0 := n_; clear n_
  have n_ := Aside0.mk (Kd.R_below (by (with_reducible repeat (first | apply Kd.R_alloc | apply Kd.R_drewN | apply Kd.R_drew)); exact HOx2.out) hb); clear HOx2; have HOx2 := n_; clear n_
  have n_ := Aside0.mk (Kd.R_below (by (with_reducible repeat (first | apply Kd.R_alloc | apply Kd.R_drewN | apply Kd.R_drew)); exact HOg0.out) hb); clear HOg0; have HOg0 := n_; clear n_
  have n_ := Aside0.mk (Kd.R_below (by (with_reducible repeat (first | apply Kd.R_alloc | apply Kd.R_drewN | apply Kd.R_drew)); exact HOh0.out) hb); clear HOh0; have HOh0 := n_; clear n_
  have HB20 := Aside0.mk (below_step (by repeat (first | (with_reducible first | exact HB19.out | apply below_alloc | apply pw_below_drewN | apply below_drew1) | exact HB19.out)) hb)
  have SZ20 := Aside0.mk (show w19.heap.size ≤ w20.heap.size from below_size (below_step (by repeat (first | (with_reducible first | exact Below.refl _ _ | apply below_alloc | apply pw_below_drewN | apply below_drew1) | exact Below.refl _ _)) hb))
  clear hb
  go_wp2_with fail
  refine calls_of_args (args' := #[.slice Arg0 UX7.length crg0, .int .i64 1]) (by rw [VX7.out]) ?_
  refine (laws_heldIntS.calls kX8 _ _ UX7 1 _ _ (by repeat (first | exact (Kd.R_reads' HOg0.out).2.2 | (with_reducible refine Kd.C_alloc ?_ _) | (with_reducible refine Kd.C_drewN ?_ _) | (with_reducible refine Kd.C_drew ?_))) (by rw [VX7.out]; exact (Kd.R_reads' HOg0.out).2.1) X8.out).mono ?_
  rintro e w21 ⟨rfl, hb0⟩
  have hb := Drawn0.below hb0
  clear hb0
  have n_ := Aside0.mk (Kd.R_below (by (with_reducible repeat (first | apply Kd.R_alloc | apply Kd.R_drewN | apply Kd.R_drew)); exact HOw0.out) hb); clear HOw0; have HOw0 := n_; clear n_
  have n_ := Aside0.mk (Kd.R_below (by (with_reducible repeat (first | apply Kd.R_alloc | apply Kd.R_drewN | apply Kd.R_drew)); exact HOx0.out) hb); clear HOx0; have HOx0 := n_; clear n_
  have n_ := Aside0.mk (Kd.R_below (by (with_reducible repeat (first | apply Kd.R_alloc | apply Kd.R_drewN | apply Kd.R_drew)); exact HOx2.out) hb); clear HOx2; have HOx2 := n_; clear n_
  have n_ := Aside0.mk (Kd.R_below (by (with_reducible repeat (first | apply Kd.R_alloc | apply Kd.R_drewN | apply Kd.R_drew)); exact HOg0.out) hb); clear HOg0; have HOg0 := n_; clear n_
  have n_ := Aside0.mk (Kd.R_below (by (with_reducible repeat (first | apply Kd.R_alloc | apply Kd.R_drewN | apply Kd.R_drew)); exact HOh0.out) hb); clear HOh0; have HOh0 := n_; clear n_
  have HB21 := Aside0.mk (below_step (by repeat (first | (with_reducible first | exact HB20.out | apply below_alloc | apply pw_below_drewN | apply below_drew1) | exact HB20.out)) hb)
  have SZ21 := Aside0.mk (show w20.heap.size ≤ w21.heap.size from below_size (below_step (by repeat (first | (with_reducible first | exact Below.refl _ _ | apply below_alloc | apply pw_below_drewN | apply below_drew1) | exact Below.refl _ _)) hb))
  clear hb
  go_wp2
  go_ret
  exact ⟨rfl, (by repeat (first | (with_reducible first | exact HB21.out | apply below_alloc | apply pw_below_drewN | apply below_drew1) | exact HB21.out))⟩
end Go.Proofs.Ytaobdjdmmhglaaa.O
