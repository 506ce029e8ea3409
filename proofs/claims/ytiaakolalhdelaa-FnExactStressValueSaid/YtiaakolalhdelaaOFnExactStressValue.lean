/- Walks of our own for the law FnExactStressValue: each function's contract in plain Lean. No condition beyond the bounds that each contract names. -/
import Derived.Test.YtiaakolalhdelaaPureFnExactStressValue
import Derived.Shelf.SlicesE.IndexFunc
import Derived.Shelf.SlLaysH
namespace Go.Proofs.Ytiaakolalhdelaa.O
open Go.RowKit Go.Lib Go.Proofs.YtiaakolalhdelaaW.PrintWords Go.Proofs.YtiaakolalhdelaaW.PrintLast Go.Proofs.YtiaakolalhdelaaW.PrintMore Go.Proofs.Ytiaakolalhdelaa.PFnExactStressValue Go.Proofs.Ytiaakolalhdelaa.EvKit Go.Proofs.Ytiaakolalhdelaa.Pure
set_option linter.unusedVariables false
set_option linter.unusedSimpArgs false
/-- A number of rounds at which a printed function answers. -/
theorem roundsOf {α : Type} {g : Nat → Option α} {r : α} (h : Ev g r) : ∃ k, g k = some r := Ev.rounds h
theorem cellsOf {w : World} {b o : Nat} {xs : List Int} (h : (Kd.int .i64).C w (some ⟨b, o, none⟩) xs.length xs) : ∀ j, j < xs.length → w.cell? ⟨b, o + j, none⟩ = some (.int .i64 xs[j]!) := by
  intro j hj
  obtain ⟨ad, e, hc⟩ := Kd.at_int h (j : Int) (by omega) (by omega)
  injection e with e
  subst e
  rw [add_at] at hc
  rw [Int.toNat_natCast] at hc
  rw [hc, rd, Int.toNat_natCast, List.getD_eq_getElem?_getD, List.getElem?_eq_getElem hj, List.getElem!_eq_getElem?_getD, List.getElem?_eq_getElem hj]
  rfl
/-- Between two numbers. -/
def Iv (a b : Nat) (k : Nat) : Prop := a ≤ k ∧ k < b
theorem R_iv {α : Type} {d : Kd α} {e base : Nat} {ok : Nat → Prop} {w : World} {v : Value} {xs : List α} (h : d.R e w base ok v xs) : d.R e w base (Iv base w.heap.size) v xs := Kd.R_mono (Kd.R_bound h) (fun _ hk => ⟨hk.2.1, hk.2.2.1⟩)
/-- Where a row of one's own that is not empty begins. -/
theorem R_head {α : Type} {d : Kd α} {e base : Nat} {ok : Nat → Prop} {w : World} {A : Option Addr} {n c : Nat} {xs : List α} (h : d.R e w base ok (.slice A n c) xs) (hp : 0 < xs.length) : ∃ b, A = some ⟨b, 0, none⟩ := by
  obtain ⟨g, cap, e1, _⟩ := Kd.R_form h hp
  injection e1 with e1
  exact ⟨g, e1⟩
theorem R_ivw {α : Type} {d : Kd α} {e base a b : Nat} {ok : Nat → Prop} {w : World} {v : Value} {xs : List α} (h : d.R e w base ok v xs) (ha : a ≤ base) (hb : b ≤ base) : d.R e w b (Iv a w.heap.size) v xs := Kd.R_lower (Kd.R_mono (Kd.R_bound h) (fun _ hk => ⟨Nat.le_trans ha hk.2.1, hk.2.2.1⟩)) hb
/-- A row whose elements hold no rows lies in its own block alone. -/
theorem R_flat {α : Type} {d : Kd α} {e base : Nat} {ok ok' : Nat → Prop} {w : World} {v : Value} {xs : List α} (hf : ∀ (w : World) (b : Nat) (p q : Nat → Prop) x cs, d.M w b p x cs → d.M w b q x cs) (h : d.R e w base ok v xs) (h0 : ∀ k, v.ownBlock = some k → ok' k) : d.R e w base ok' v xs := ⟨h0, h.2.imp_ (fun _ _ hp => hf _ _ _ _ _ _ hp)⟩
theorem flat_int (w : World) (b : Nat) (p q : Nat → Prop) (x : Int) (cs : List Value) (h : (Kd.int .i64).M w b p x cs) : (Kd.int .i64).M w b q x cs := h
def Lcf_ren : Go.Shelf.Ren := ⟨fun | 6 => 74 | 8 => 61 | n => n, fun | 22 => 39 | 23 => 3 | 25 => 64 | n => n, fun | n => n⟩
theorem Lcf : Go.Proofs.SlLaysH.n8 Try.prog Lcf_ren := {
  mixed := by kernel_rfl,
  f6 := ⟨Try.f74.name, by decide, Try.func74.trans (congrArg some (by kernel_rfl))⟩,
  f8 := ⟨Try.f61.name, by decide, Try.func61.trans (congrArg some (by kernel_rfl))⟩,
  t0 := Try.underlying0,
  a0 := Try.isAgg0,
  z0 := Try.sizeOf0,
  v0 := Try.zeroValue0,
  t3 := Try.underlying3,
  a3 := Try.isAgg3,
  z3 := Try.sizeOf3,
  v3 := Try.zeroValue3,
  t4 := Try.underlying4,
  a4 := Try.isAgg4,
  z4 := Try.sizeOf4,
  v4 := Try.zeroValue4,
  t22 := Try.underlying39,
  a22 := Try.isAgg39,
  z22 := Try.sizeOf39,
  v22 := Try.zeroValue39,
  a23 := Try.isAgg3,
  z23 := Try.sizeOf3,
  t25 := Try.underlying64,
  a25 := Try.isAgg64,
  z25 := Try.sizeOf64,
  v25 := Try.zeroValue64 }

/-- slices.ContainsFunc over a row of whole numbers, a predicate given. -/
theorem containsFunc_c (g : Nat) (eg : ∀ args w, (callFunc g args).run Try.prog w = .ok (.enter g args) w) (lb : Array Value) (p : Int → Bool) (A : Option Addr) (c : Nat) (xs : List Int) (w : World) (hp : PredAt Try.prog g lb (Value.int .i64) p w) (hr : (Kd.int .i64).C w A xs.length xs) (ha : 0 < xs.length → ∃ b, A = some ⟨b, 0, none⟩) :
    Calls Try.prog 61 #[.slice A xs.length c, .func (.func g) #[] lb] w fun e w' => e = .returned (.bool (xs.any p)) ∧ ∃ q, w' = w.drewN q := by
  by_cases hp0 : 0 < xs.length
  · obtain ⟨b, rfl⟩ := ha hp0
    have h := AnyE.slices_ContainsFunc Lcf (Value.int .i64) p g lb eg b 0 xs.length c xs w hp (Nat.le_refl _) (Kd.C_max hr) (cellsOf hr)
    rw [List.take_length] at h
    exact h
  · obtain rfl : xs = [] := List.length_eq_zero_iff.mp (by omega)
    exact (AnyE.slices_ContainsFunc_empty Lcf A c _ w).mono fun e w' ⟨he, hw⟩ => ⟨he, 0, hw⟩
theorem stressPred (w : World) : PredAt Try.prog 62 #[] (Value.int .i64) (fun x => !shOk x) w := fun W x _ => by
  unfold FnGives
  have h : impl_within.f x 0 1000 = some (shOk x) := by rw [within_eq]; rfl
  go_enter Try.func62, Try.ntmps62
  go_wp2_with (go_at_call 54; refine (impl_within.calls x 0 1000 _ _ h).mono ?_; rintro e w' ⟨rfl, ⟨n, rfl⟩⟩)
  go_ret
  exact ⟨rfl, n, rfl⟩
set_option maxHeartbeats 4000000 in
set_option maxRecDepth 100000 in
theorem implStress_c (A0 : Option Addr) (c0 : Nat) (xs : List S51) (A1 : Option Addr) (c1 : Nat) (sh : List Int) (w : World) (hr0 : Kd.C k51 w A0 xs.length xs) (hc0 : xs.length ≤ c0) (hr1 : (Kd.int .i64).C w A1 sh.length sh) (hc1 : sh.length ≤ c1) (ha : 0 < sh.length → ∃ b, A1 = some ⟨b, 0, none⟩) (hn : xs.length ≤ 1048576) (hm : sh.length ≤ 1048576) :
    Calls Try.prog 28 #[.slice A0 xs.length c0, .slice A1 sh.length c1] w fun e w' => e = .returned (.tuple #[.int .i64 (strA xs sh).1, .bool (strA xs sh).2]) ∧ Below w.heap.size w w' := by
  obtain ⟨kv, hv⟩ := roundsOf (implValid_ev xs hn)
  have eg : ∀ args w, (callFunc 62 args).run Try.prog w = .ok (.enter 62 args) w := enters_of Try.func62 (by kernel_rfl) rfl
  by_cases g : goodA xs = true
  · rw [g] at hv
    have HV := Aside0.mk hv
    have HR0 := Aside0.mk hr0
    have HR1 := Aside0.mk hr1
    have HC0 := Aside0.mk hc0
    have HC1 := Aside0.mk hc1
    by_cases hl : sh.length = 10
    · have hl' : ((sh.length : Int) != 10) = false := by rw [bne_eq_false_iff_eq]; omega
      by_cases hs : sh.any (fun x => !shOk x) = true
      · have hfin : strA xs sh = (0, false) := by
          unfold strA
          rw [if_neg (fun q => ?_)]
          obtain ⟨x, hx, hx2⟩ := List.any_eq_true.mp hs
          have := List.all_eq_true.mp q.2.2 x hx
          rw [this] at hx2; cases hx2
        have HF := Aside0.mk hfin
        have HS := Aside0.mk hs
        have HA := Aside0.mk ha
        have EG := Aside0.mk eg
        clear hv hr0 hr1 hc0 hc1 hfin hs ha eg hl g
        go_enter Try.func28, Try.ntmps28
        go_wp2_with (first
          | (go_at_call 20; refine (impl_IsValidAssets.calls kv _ _ xs true _ HR0.out HC0.out HV.out).mono ?_; rintro e w1 ⟨rfl, hb⟩; have HB := Aside0.mk hb; clear hb)
          | (go_at_call 61; refine (containsFunc_c 62 EG.out #[] (fun x => !shOk x) _ _ sh _ (stressPred _) (Kd.C_below HR1.out HB.out) HA.out).mono ?_; rw [HS.out]; rintro e w2 ⟨rfl, ⟨q, rfl⟩⟩))
        go_ret2
        rw [HF.out]
        exact ⟨rfl, pw_below_drewN HB.out _⟩
      · have hs' : sh.any (fun x => !shOk x) = false := by simpa using hs
        have hall : sh.all shOk = true := by
          refine List.all_eq_true.mpr (fun x hx => ?_)
          by_cases q : shOk x = true
          · exact q
          · exact absurd (List.any_eq_true.mpr ⟨x, hx, by simpa using q⟩) hs
        have hfin : strA xs sh = (sumV 0 (xs.map (strW sh)), true) := by
          unfold strA
          rw [if_pos ⟨g, hl, hall⟩]
        have hok : ∀ a ∈ xs, okA a := (of_decide_eq_true g).1
        have HF := Aside0.mk hfin
        have HS := Aside0.mk hs'
        have HA := Aside0.mk ha
        have EG := Aside0.mk eg
        have HL := Aside0.mk hl
        have HOK := Aside0.mk hok
        clear hv hr0 hr1 hc0 hc1 hfin hs hs' hall ha eg hl g hok
        go_enter Try.func28, Try.ntmps28
        go_wp2_with (first
          | (go_at_call 20; refine (impl_IsValidAssets.calls kv _ _ xs true _ HR0.out HC0.out HV.out).mono ?_; rintro e w1 ⟨rfl, hb⟩; have HB := Aside0.mk hb; clear hb)
          | (go_at_call 61; refine (containsFunc_c 62 EG.out #[] (fun x => !shOk x) _ _ sh _ (stressPred _) (Kd.C_below HR1.out HB.out) HA.out).mono ?_; rw [HS.out]; rintro e w2 ⟨rfl, ⟨q, rfl⟩⟩))
        go_loopw [6, 23] (fun v6 v23 wr => ∃ (pre rest : List S51) (s : Int), Aside0 (xs = pre ++ rest) ∧ v23 = .int .i64 pre.length ∧ v6 = .int .i64 s ∧ Aside0 (sumV s (rest.map (strW sh)) = sumV 0 (xs.map (strW sh))) ∧ Aside0 (Below w.heap.size w wr)) (fun _ v23 _ => xs.length - (intOf v23).toNat)
        case atStart => exact ⟨[], xs, 0, ⟨rfl⟩, rfl, rfl, ⟨rfl⟩, ⟨pw_below_drewN HB.out _⟩⟩
        case round =>
          obtain ⟨pre, rest, s, HX, rfl, rfl, HE, HB⟩ := hrel
          cases rest with
          | nil =>
            have c : decide (pre.length < xs.length) = false := decide_eq_false (by have := len_nil HX.out; omega)
            go_wp2
            go_ret2
            rw [HF.out]
            exact ⟨by rw [← HE.out]; rfl, HB.out⟩
          | cons a t =>
            have hlt := len_cons HX.out
            have hpl : (pre.length : Int) < xs.length := by omega
            have hmem : a ∈ xs := by rw [HX.out]; simp
            have hka := (HOK.out a hmem).1
            obtain ⟨ad, e0, hx0, hx1, hx2⟩ := at_T51 HR0.out (pre.length : Int) (by omega) hpl
            rw [rd_T51_at HX.out rfl] at hx0 hx1 hx2
            simp only [Int.toNat_natCast] at hx0 hx1 hx2
            cases e0
            replace hx0 := (HB.out.cell (World.block_lt_of_cell? w _ hx0)).trans hx0
            replace hx1 := (HB.out.cell (World.block_lt_of_cell? w _ hx1)).trans hx1
            replace hx2 := (HB.out.cell (World.block_lt_of_cell? w _ hx2)).trans hx2
            have c : decide (pre.length < xs.length) = true := decide_eq_true (by omega)
            have hq : a.f0 < sh.length := by have := HL.out; omega
            have hp := hka.1
            obtain ⟨ad1, e1, hy⟩ := Kd.at_int HR1.out a.f0 hp hq
            cases e1
            replace hy := (HB.out.cell (World.block_lt_of_cell? w _ hy)).trans hy
            have hy' : ∀ O, (wr.alloc O).cell? (ad1.add a.f0.toNat) = some (.int .i64 (rd sh a.f0)) := fun O => ((below_alloc (Below.refl wr.heap.size wr) O).cell (World.block_lt_of_cell? wr _ hy)).trans hy
            clear hlt hmem hka
            go_upto_region 7 with (fail)
            go_region
            go_wp2_with (go_at_call 59; refine (impl_valueOf.calls _ _ _ _ _ (implValue_eq (strW sh a))).mono ?_; rintro e w3 ⟨rfl, hb⟩)
            have hB3 : Below w.heap.size w w3 := below_step (below_drew1 (below_alloc HB.out _)) hb
            go_roundw
            case rel => exact ⟨pre ++ [a], t, wrap64 (s + valW (strW sh a)), ⟨snoc HX.out⟩, by rw [len_snoc], by go_num, ⟨HE.out⟩, ⟨hB3⟩⟩
            case measure => simp [intOf]; omega
    · have hl' : ((sh.length : Int) != 10) = true := by rw [bne_iff_ne]; omega
      have hfin : strA xs sh = (0, false) := by unfold strA; rw [if_neg (fun q => hl q.2.1)]
      have HF := Aside0.mk hfin
      clear hv hr0 hr1 hc0 hc1 hfin ha eg hl g
      go_enter Try.func28, Try.ntmps28
      go_wp2_with (go_at_call 20; refine (impl_IsValidAssets.calls kv _ _ xs true _ HR0.out HC0.out HV.out).mono ?_; rintro e w1 ⟨rfl, hb⟩; have HB := Aside0.mk hb; clear hb)
      go_ret2
      rw [HF.out]
      exact ⟨rfl, HB.out⟩
  · have g' : goodA xs = false := by simpa using g
    rw [g'] at hv
    have hfin : strA xs sh = (0, false) := by unfold strA; rw [if_neg (fun q => g q.1)]
    have HV := Aside0.mk hv
    have HR0 := Aside0.mk hr0
    have HC0 := Aside0.mk hc0
    have HF := Aside0.mk hfin
    clear hv hr0 hr1 hc0 hc1 hfin ha eg g g'
    go_enter Try.func28, Try.ntmps28
    go_wp2_with (go_at_call 20; refine (impl_IsValidAssets.calls kv _ _ xs false _ HR0.out HC0.out HV.out).mono ?_; rintro e w1 ⟨rfl, hb⟩; have HB := Aside0.mk hb; clear hb)
    go_ret2
    rw [HF.out]
    exact ⟨rfl, HB.out⟩
theorem impl_c (A0 : Option Addr) (c0 : Nat) (xs : List S51) (A1 : Option Addr) (c1 : Nat) (sh : List Int) (w : World) (hr0 : Kd.C k51 w A0 xs.length xs) (hc0 : xs.length ≤ c0) (ha0 : 0 < xs.length → ∃ b, A0 = some ⟨b, 0, none⟩) (hn : xs.length ≤ 1048576) (hr1 : (Kd.int .i64).C w A1 sh.length sh) (hc1 : sh.length ≤ c1) (ha : 0 < sh.length → ∃ b, A1 = some ⟨b, 0, none⟩) (hm : sh.length ≤ 1048576) :
    Calls Try.prog 28 #[.slice A0 xs.length c0, .slice A1 sh.length c1] w fun e w' => e = .returned (.tuple #[.int .i64 (strA xs sh).1, .bool (strA xs sh).2]) ∧ Below w.heap.size w w' := implStress_c A0 c0 xs A1 c1 sh w hr0 hc0 hr1 hc1 ha hn hm
theorem spec_c (A0 : Option Addr) (c0 : Nat) (xs : List S51) (A1 : Option Addr) (c1 : Nat) (sh : List Int) (w : World) (hr0 : Kd.C k51 w A0 xs.length xs) (hc0 : xs.length ≤ c0) (ha0 : 0 < xs.length → ∃ b, A0 = some ⟨b, 0, none⟩) (hn : xs.length ≤ 1048576) (hr1 : (Kd.int .i64).C w A1 sh.length sh) (hc1 : sh.length ≤ c1) (ha : 0 < sh.length → ∃ b, A1 = some ⟨b, 0, none⟩) (hm : sh.length ≤ 1048576) :
    Calls Try.prog 26 #[.slice A0 xs.length c0, .slice A1 sh.length c1] w fun e w' => e = .returned (.tuple #[.int .i64 (strA xs sh).1, .bool (strA xs sh).2]) ∧ Below w.heap.size w w' := by
  obtain ⟨k, h⟩ := roundsOf (specStress_ev xs sh hn)
  exact spec_StressValue.calls k A0 c0 xs A1 c1 sh _ _ w hr0 hc0 hr1 hc1 h
set_option maxHeartbeats 16000000 in
set_option maxRecDepth 100000 in
theorem law_c (A0 : Option Addr) (c0 : Nat) (l0 : List S68) (A1 : Option Addr) (c1 : Nat) (l1 : List Int) (w : World) (hr0 : Kd.C k68 w A0 l0.length l0) (hc0 : l0.length ≤ c0) (hr1 : Kd.C (Kd.int .i64) w A1 l1.length l1) (hc1 : l1.length ≤ c1) (he0 : ∀ y ∈ l0, (KReads.InI y.f0 ∧ KReads.InI y.f1 ∧ KReads.InI y.f2)) (he1 : ∀ y ∈ l1, KReads.InI y) :
    Calls Try.prog 7 #[.slice A0 l0.length c0, .slice A1 l1.length c1] w fun e w' => e = .returned (.bool true) ∧ Below w.heap.size w w' := by
  have HR0 := Aside0.mk hr0
  have HC0 := Aside0.mk hc0
  have HM0 := Aside0.mk (Kd.C_max hr0)
  have HR1 := Aside0.mk hr1
  have HC1 := Aside0.mk hc1
  have HM1 := Aside0.mk (Kd.C_max hr1)
  clear hr0 hc0 hr1 hc1
  by_cases hn1 : l1.length ≤ 1048576
  rotate_left
  · have hn_ := hn1
    have cl1 : decide (1048576 < l1.length) = true := decide_eq_true (by omega)
    clear hn_
    go_enter Try.func7, Try.ntmps7
    go_wp2_with fail
    go_ret
    exact ⟨rfl, (by repeat (first | (with_reducible first | exact Below.refl _ _ | apply below_alloc | apply pw_below_drewN | apply below_drew1) | exact Below.refl _ _))⟩
  by_cases hn0 : l0.length ≤ 1048576
  rotate_left
  · have hn_ := hn0
    have cl1 : decide (1048576 < l1.length) = false := decide_eq_false (by omega)
    have E0 := Aside0.mk ((szAssetS_eq l0 HM0.out).trans (congrArg some (if_neg hn0)))
    clear hn_
    go_enter Try.func7, Try.ntmps7
    go_wp2_with (go_at_call 17; refine (laws_szAssetS.calls _ _ l0 1048576 _ _ HR0.out HC0.out E0.out).mono ?_; rintro e w0_ ⟨rfl, ⟨q, rfl⟩⟩)
    go_ret
    exact ⟨rfl, (by repeat (first | (with_reducible first | exact Below.refl _ _ | apply below_alloc | apply pw_below_drewN | apply below_drew1) | exact Below.refl _ _))⟩
  have cl1 : decide (1048576 < l1.length) = false := decide_eq_false (by omega)
  have E0 := Aside0.mk ((szAssetS_eq l0 HM0.out).trans (congrArg some (if_pos hn0)))
  have cs0 : decide (1048576 - (l0.length : Int) < 0) = false := decide_eq_false (by omega)
  obtain ⟨L0, eL0⟩ : ∃ L_ : List S51, L_ = l0.map cv_Asset := ⟨_, rfl⟩
  have hv0 : L0.length ≤ 1048576 := by rw [eL0]; simpa using hn0
  have EL0 := Aside0.mk eL0
  clear eL0
  have hv1 := hn1
  have HB0 := Aside0.mk (Below.refl w.heap.size w)
  obtain ⟨kX0, hX0⟩ := roundsOf (toAssetS_ev l0 hn0)
  rw [← EL0.out] at hX0
  have X0 := Aside0.mk hX0
  clear hX0
  obtain ⟨kX1, hX1⟩ := roundsOf (toIntS_ev l1 hn1)
  have X1 := Aside0.mk hX1
  clear hX1
  obtain ⟨kX2, hX2⟩ := roundsOf (eqAssetS_ev L0 (by have h_ := hv0; omega))
  have X2 := Aside0.mk hX2
  clear hX2
  obtain ⟨kX3, hX3⟩ := roundsOf (eqIntS_ev l1 (by have h_ := hv1; omega))
  have X3 := Aside0.mk hX3
  clear hX3
  go_enter Try.func7, Try.ntmps7
  go_wp2_with (go_at_call 17; refine (laws_szAssetS.calls _ _ l0 1048576 _ _ HR0.out HC0.out E0.out).mono ?_; rintro e w0_ ⟨rfl, ⟨q, rfl⟩⟩)
  refine (laws_toAssetS.calls kX0 _ _ l0 _ _ (by repeat (first | exact (Kd.C_below HR0.out HB0.out) | (with_reducible refine Kd.C_alloc ?_ _) | (with_reducible refine Kd.C_drewN ?_ _) | (with_reducible refine Kd.C_drew ?_))) HC0.out X0.out).mono ?_
  rintro e w1 ⟨v, rfl, ho, hb⟩
  have HB1 := Aside0.mk (below_step (by repeat (first | (with_reducible first | exact HB0.out | apply below_alloc | apply pw_below_drewN | apply below_drew1) | exact HB0.out)) hb)
  have SZ1 := Aside0.mk (show w.heap.size ≤ w1.heap.size from below_size (below_step (by repeat (first | (with_reducible first | exact Below.refl _ _ | apply below_alloc | apply pw_below_drewN | apply below_drew1) | exact Below.refl _ _)) hb))
  have HOt1 := Aside0.mk (R_ivw (a := w.heap.size) (b := w.heap.size) ho (below_size (by repeat (first | (with_reducible first | exact Below.refl _ _ | apply below_alloc | apply pw_below_drewN | apply below_drew1) | exact Below.refl _ _))) (below_size (by repeat (first | (with_reducible first | exact HB0.out | apply below_alloc | apply pw_below_drewN | apply below_drew1) | exact HB0.out))))
  obtain ⟨Art1, crt1, ert1⟩ := Kd.R_slice HOt1.out
  subst ert1
  clear ho hb
  go_wp2_with fail
  refine (laws_toIntS.calls kX1 _ _ l1 _ _ (by repeat (first | exact (Kd.C_below HR1.out HB1.out) | (with_reducible refine Kd.C_alloc ?_ _) | (with_reducible refine Kd.C_drewN ?_ _) | (with_reducible refine Kd.C_drew ?_))) HC1.out X1.out).mono ?_
  rintro e w2 ⟨v, rfl, ho, hb⟩
  have n_ := Aside0.mk (Kd.R_below (by (with_reducible repeat (first | apply Kd.R_alloc | apply Kd.R_drewN | apply Kd.R_drew)); exact HOt1.out) hb); clear HOt1; have HOt1 := n_; clear n_
  have HB2 := Aside0.mk (below_step (by repeat (first | (with_reducible first | exact HB1.out | apply below_alloc | apply pw_below_drewN | apply below_drew1) | exact HB1.out)) hb)
  have SZ2 := Aside0.mk (show w1.heap.size ≤ w2.heap.size from below_size (below_step (by repeat (first | (with_reducible first | exact Below.refl _ _ | apply below_alloc | apply pw_below_drewN | apply below_drew1) | exact Below.refl _ _)) hb))
  have HOt2 := Aside0.mk (R_ivw (a := w1.heap.size) (b := w.heap.size) ho (below_size (by repeat (first | (with_reducible first | exact Below.refl _ _ | apply below_alloc | apply pw_below_drewN | apply below_drew1) | exact Below.refl _ _))) (below_size (by repeat (first | (with_reducible first | exact HB1.out | apply below_alloc | apply pw_below_drewN | apply below_drew1) | exact HB1.out))))
  obtain ⟨Art2, crt2, ert2⟩ := Kd.R_slice HOt2.out
  subst ert2
  clear ho hb
  go_wp2_with fail
  refine (spec_c _ _ L0 _ _ l1 _ (by repeat (first | exact (Kd.R_reads' HOt1.out).2.2 | (with_reducible refine Kd.C_alloc ?_ _) | (with_reducible refine Kd.C_drewN ?_ _) | (with_reducible refine Kd.C_drew ?_))) (Kd.R_reads' HOt1.out).2.1 (fun hp => R_head HOt1.out hp) hv0 (by repeat (first | exact (Kd.R_reads' HOt2.out).2.2 | (with_reducible refine Kd.C_alloc ?_ _) | (with_reducible refine Kd.C_drewN ?_ _) | (with_reducible refine Kd.C_drew ?_))) (Kd.R_reads' HOt2.out).2.1 (fun hp => R_head HOt2.out hp) hv1 ).mono ?_
  rintro e w3 ⟨rfl, hb⟩
  have n_ := Aside0.mk (Kd.R_below (by (with_reducible repeat (first | apply Kd.R_alloc | apply Kd.R_drewN | apply Kd.R_drew)); exact HOt1.out) hb); clear HOt1; have HOt1 := n_; clear n_
  have n_ := Aside0.mk (Kd.R_below (by (with_reducible repeat (first | apply Kd.R_alloc | apply Kd.R_drewN | apply Kd.R_drew)); exact HOt2.out) hb); clear HOt2; have HOt2 := n_; clear n_
  have HB3 := Aside0.mk (below_step (by repeat (first | (with_reducible first | exact HB2.out | apply below_alloc | apply pw_below_drewN | apply below_drew1) | exact HB2.out)) hb)
  have SZ3 := Aside0.mk (show w2.heap.size ≤ w3.heap.size from below_size (below_step (by repeat (first | (with_reducible first | exact Below.refl _ _ | apply below_alloc | apply pw_below_drewN | apply below_drew1) | exact Below.refl _ _)) hb))
  clear hb
  go_wp2_with fail
  refine (laws_toAssetS.calls kX0 _ _ l0 _ _ (by repeat (first | exact (Kd.C_below HR0.out HB3.out) | (with_reducible refine Kd.C_alloc ?_ _) | (with_reducible refine Kd.C_drewN ?_ _) | (with_reducible refine Kd.C_drew ?_))) HC0.out X0.out).mono ?_
  rintro e w4 ⟨v, rfl, ho, hb⟩
  have HB4 := Aside0.mk (below_step (by repeat (first | (with_reducible first | exact HB3.out | apply below_alloc | apply pw_below_drewN | apply below_drew1) | exact HB3.out)) hb)
  have SZ4 := Aside0.mk (show w3.heap.size ≤ w4.heap.size from below_size (below_step (by repeat (first | (with_reducible first | exact Below.refl _ _ | apply below_alloc | apply pw_below_drewN | apply below_drew1) | exact Below.refl _ _)) hb))
  have HOx0 := Aside0.mk (R_ivw (a := w3.heap.size) (b := w.heap.size) ho (below_size (by repeat (first | (with_reducible first | exact Below.refl _ _ | apply below_alloc | apply pw_below_drewN | apply below_drew1) | exact Below.refl _ _))) (below_size (by repeat (first | (with_reducible first | exact HB3.out | apply below_alloc | apply pw_below_drewN | apply below_drew1) | exact HB3.out))))
  obtain ⟨Arx0, crx0, erx0⟩ := Kd.R_slice HOx0.out
  subst erx0
  clear ho hb
  go_wp2_with fail
  refine (laws_toIntS.calls kX1 _ _ l1 _ _ (by repeat (first | exact (Kd.C_below HR1.out HB4.out) | (with_reducible refine Kd.C_alloc ?_ _) | (with_reducible refine Kd.C_drewN ?_ _) | (with_reducible refine Kd.C_drew ?_))) HC1.out X1.out).mono ?_
  rintro e w5 ⟨v, rfl, ho, hb⟩
  have n_ := Aside0.mk (Kd.R_below (by (with_reducible repeat (first | apply Kd.R_alloc | apply Kd.R_drewN | apply Kd.R_drew)); exact HOx0.out) hb); clear HOx0; have HOx0 := n_; clear n_
  have HB5 := Aside0.mk (below_step (by repeat (first | (with_reducible first | exact HB4.out | apply below_alloc | apply pw_below_drewN | apply below_drew1) | exact HB4.out)) hb)
  have SZ5 := Aside0.mk (show w4.heap.size ≤ w5.heap.size from below_size (below_step (by repeat (first | (with_reducible first | exact Below.refl _ _ | apply below_alloc | apply pw_below_drewN | apply below_drew1) | exact Below.refl _ _)) hb))
  have HOx1 := Aside0.mk (R_ivw (a := w4.heap.size) (b := w.heap.size) ho (below_size (by repeat (first | (with_reducible first | exact Below.refl _ _ | apply below_alloc | apply pw_below_drewN | apply below_drew1) | exact Below.refl _ _))) (below_size (by repeat (first | (with_reducible first | exact HB4.out | apply below_alloc | apply pw_below_drewN | apply below_drew1) | exact HB4.out))))
  obtain ⟨Arx1, crx1, erx1⟩ := Kd.R_slice HOx1.out
  subst erx1
  clear ho hb
  go_wp2_with fail
  refine (impl_c _ _ L0 _ _ l1 _ (by repeat (first | exact (Kd.R_reads' HOx0.out).2.2 | (with_reducible refine Kd.C_alloc ?_ _) | (with_reducible refine Kd.C_drewN ?_ _) | (with_reducible refine Kd.C_drew ?_))) (Kd.R_reads' HOx0.out).2.1 (fun hp => R_head HOx0.out hp) hv0 (by repeat (first | exact (Kd.R_reads' HOx1.out).2.2 | (with_reducible refine Kd.C_alloc ?_ _) | (with_reducible refine Kd.C_drewN ?_ _) | (with_reducible refine Kd.C_drew ?_))) (Kd.R_reads' HOx1.out).2.1 (fun hp => R_head HOx1.out hp) hv1 ).mono ?_
  rintro e w6 ⟨rfl, hb⟩
  have n_ := Aside0.mk (Kd.R_below (by (with_reducible repeat (first | apply Kd.R_alloc | apply Kd.R_drewN | apply Kd.R_drew)); exact HOx0.out) hb); clear HOx0; have HOx0 := n_; clear n_
  have n_ := Aside0.mk (Kd.R_below (by (with_reducible repeat (first | apply Kd.R_alloc | apply Kd.R_drewN | apply Kd.R_drew)); exact HOx1.out) hb); clear HOx1; have HOx1 := n_; clear n_
  have HB6 := Aside0.mk (below_step (by repeat (first | (with_reducible first | exact HB5.out | apply below_alloc | apply pw_below_drewN | apply below_drew1) | exact HB5.out)) hb)
  have SZ6 := Aside0.mk (show w5.heap.size ≤ w6.heap.size from below_size (below_step (by repeat (first | (with_reducible first | exact Below.refl _ _ | apply below_alloc | apply pw_below_drewN | apply below_drew1) | exact Below.refl _ _)) hb))
  clear hb
  go_wp2_with fail
  refine (laws_toAssetS.calls kX0 _ _ l0 _ _ (by repeat (first | exact (Kd.C_below HR0.out HB6.out) | (with_reducible refine Kd.C_alloc ?_ _) | (with_reducible refine Kd.C_drewN ?_ _) | (with_reducible refine Kd.C_drew ?_))) HC0.out X0.out).mono ?_
  rintro e w7 ⟨v, rfl, ho, hb⟩
  have n_ := Aside0.mk (Kd.R_below (by (with_reducible repeat (first | apply Kd.R_alloc | apply Kd.R_drewN | apply Kd.R_drew)); exact HOx0.out) hb); clear HOx0; have HOx0 := n_; clear n_
  have n_ := Aside0.mk (Kd.R_below (by (with_reducible repeat (first | apply Kd.R_alloc | apply Kd.R_drewN | apply Kd.R_drew)); exact HOx1.out) hb); clear HOx1; have HOx1 := n_; clear n_
  have HB7 := Aside0.mk (below_step (by repeat (first | (with_reducible first | exact HB6.out | apply below_alloc | apply pw_below_drewN | apply below_drew1) | exact HB6.out)) hb)
  have SZ7 := Aside0.mk (show w6.heap.size ≤ w7.heap.size from below_size (below_step (by repeat (first | (with_reducible first | exact Below.refl _ _ | apply below_alloc | apply pw_below_drewN | apply below_drew1) | exact Below.refl _ _)) hb))
  have HOt3 := Aside0.mk (R_ivw (a := w6.heap.size) (b := w.heap.size) ho (below_size (by repeat (first | (with_reducible first | exact Below.refl _ _ | apply below_alloc | apply pw_below_drewN | apply below_drew1) | exact Below.refl _ _))) (below_size (by repeat (first | (with_reducible first | exact HB6.out | apply below_alloc | apply pw_below_drewN | apply below_drew1) | exact HB6.out))))
  obtain ⟨Art3, crt3, ert3⟩ := Kd.R_slice HOt3.out
  subst ert3
  clear ho hb
  go_wp2_with fail
  refine (laws_eqAssetS.calls kX2 _ _ L0 _ _ L0 true _ (by repeat (first | exact (Kd.R_reads' HOx0.out).2.2 | (with_reducible refine Kd.C_alloc ?_ _) | (with_reducible refine Kd.C_drewN ?_ _) | (with_reducible refine Kd.C_drew ?_))) (Kd.R_reads' HOx0.out).2.1 (by repeat (first | exact (Kd.R_reads' HOt3.out).2.2 | (with_reducible refine Kd.C_alloc ?_ _) | (with_reducible refine Kd.C_drewN ?_ _) | (with_reducible refine Kd.C_drew ?_))) (Kd.R_reads' HOt3.out).2.1 X2.out).mono ?_
  rintro e w8 ⟨rfl, hb⟩
  have n_ := Aside0.mk (Kd.R_below (by (with_reducible repeat (first | apply Kd.R_alloc | apply Kd.R_drewN | apply Kd.R_drew)); exact HOx0.out) hb); clear HOx0; have HOx0 := n_; clear n_
  have n_ := Aside0.mk (Kd.R_below (by (with_reducible repeat (first | apply Kd.R_alloc | apply Kd.R_drewN | apply Kd.R_drew)); exact HOx1.out) hb); clear HOx1; have HOx1 := n_; clear n_
  have n_ := Aside0.mk (Kd.R_below (by (with_reducible repeat (first | apply Kd.R_alloc | apply Kd.R_drewN | apply Kd.R_drew)); exact HOt3.out) hb); clear HOt3; have HOt3 := n_; clear n_
  have HB8 := Aside0.mk (below_step (by repeat (first | (with_reducible first | exact HB7.out | apply below_alloc | apply pw_below_drewN | apply below_drew1) | exact HB7.out)) hb)
  have SZ8 := Aside0.mk (show w7.heap.size ≤ w8.heap.size from below_size (below_step (by repeat (first | (with_reducible first | exact Below.refl _ _ | apply below_alloc | apply pw_below_drewN | apply below_drew1) | exact Below.refl _ _)) hb))
  clear hb
  go_wp2_with fail
  refine (laws_toIntS.calls kX1 _ _ l1 _ _ (by repeat (first | exact (Kd.C_below HR1.out HB8.out) | (with_reducible refine Kd.C_alloc ?_ _) | (with_reducible refine Kd.C_drewN ?_ _) | (with_reducible refine Kd.C_drew ?_))) HC1.out X1.out).mono ?_
  rintro e w9 ⟨v, rfl, ho, hb⟩
  have n_ := Aside0.mk (Kd.R_below (by (with_reducible repeat (first | apply Kd.R_alloc | apply Kd.R_drewN | apply Kd.R_drew)); exact HOx0.out) hb); clear HOx0; have HOx0 := n_; clear n_
  have n_ := Aside0.mk (Kd.R_below (by (with_reducible repeat (first | apply Kd.R_alloc | apply Kd.R_drewN | apply Kd.R_drew)); exact HOx1.out) hb); clear HOx1; have HOx1 := n_; clear n_
  have HB9 := Aside0.mk (below_step (by repeat (first | (with_reducible first | exact HB8.out | apply below_alloc | apply pw_below_drewN | apply below_drew1) | exact HB8.out)) hb)
  have SZ9 := Aside0.mk (show w8.heap.size ≤ w9.heap.size from below_size (below_step (by repeat (first | (with_reducible first | exact Below.refl _ _ | apply below_alloc | apply pw_below_drewN | apply below_drew1) | exact Below.refl _ _)) hb))
  have HOt4 := Aside0.mk (R_ivw (a := w8.heap.size) (b := w.heap.size) ho (below_size (by repeat (first | (with_reducible first | exact Below.refl _ _ | apply below_alloc | apply pw_below_drewN | apply below_drew1) | exact Below.refl _ _))) (below_size (by repeat (first | (with_reducible first | exact HB8.out | apply below_alloc | apply pw_below_drewN | apply below_drew1) | exact HB8.out))))
  obtain ⟨Art4, crt4, ert4⟩ := Kd.R_slice HOt4.out
  subst ert4
  clear ho hb
  go_wp2_with fail
  refine (laws_eqIntS.calls kX3 _ _ l1 _ _ l1 true _ (by repeat (first | exact (Kd.R_reads' HOx1.out).2.2 | (with_reducible refine Kd.C_alloc ?_ _) | (with_reducible refine Kd.C_drewN ?_ _) | (with_reducible refine Kd.C_drew ?_))) (Kd.R_reads' HOx1.out).2.1 (by repeat (first | exact (Kd.R_reads' HOt4.out).2.2 | (with_reducible refine Kd.C_alloc ?_ _) | (with_reducible refine Kd.C_drewN ?_ _) | (with_reducible refine Kd.C_drew ?_))) (Kd.R_reads' HOt4.out).2.1 X3.out).mono ?_
  rintro e w10 ⟨rfl, hb0⟩
  have hb := Drawn0.below hb0
  clear hb0
  have n_ := Aside0.mk (Kd.R_below (by (with_reducible repeat (first | apply Kd.R_alloc | apply Kd.R_drewN | apply Kd.R_drew)); exact HOx0.out) hb); clear HOx0; have HOx0 := n_; clear n_
  have n_ := Aside0.mk (Kd.R_below (by (with_reducible repeat (first | apply Kd.R_alloc | apply Kd.R_drewN | apply Kd.R_drew)); exact HOx1.out) hb); clear HOx1; have HOx1 := n_; clear n_
  have n_ := Aside0.mk (Kd.R_below (by (with_reducible repeat (first | apply Kd.R_alloc | apply Kd.R_drewN | apply Kd.R_drew)); exact HOt4.out) hb); clear HOt4; have HOt4 := n_; clear n_
  have HB10 := Aside0.mk (below_step (by repeat (first | (with_reducible first | exact HB9.out | apply below_alloc | apply pw_below_drewN | apply below_drew1) | exact HB9.out)) hb)
  have SZ10 := Aside0.mk (show w9.heap.size ≤ w10.heap.size from below_size (below_step (by repeat (first | (with_reducible first | exact Below.refl _ _ | apply below_alloc | apply pw_below_drewN | apply below_drew1) | exact Below.refl _ _)) hb))
  clear hb
  go_wp2
  go_ret
  exact ⟨rfl, (by repeat (first | (with_reducible first | exact HB10.out | apply below_alloc | apply pw_below_drewN | apply below_drew1) | exact HB10.out))⟩
end Go.Proofs.Ytiaakolalhdelaa.O
