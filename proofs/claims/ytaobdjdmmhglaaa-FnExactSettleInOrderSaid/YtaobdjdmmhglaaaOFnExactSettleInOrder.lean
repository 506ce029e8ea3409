/- Walks of our own for the law FnExactSettleInOrder: each function's contract in plain Lean. No condition beyond the bounds that each contract names. -/
import Derived.Test.YtaobdjdmmhglaaaPureFnExactSettleInOrder
import Derived.Shelf.Slices.Clone
import Derived.Shelf.SlicesE.IndexFunc
import Derived.Shelf.Lays2
import Derived.Shelf.SlLaysH
namespace Go.Proofs.Ytaobdjdmmhglaaa.O
open Go.RowKit Go.Proofs.YtaobdjdmmhglaaaW.PrintWords Go.Proofs.YtaobdjdmmhglaaaW.PrintLast Go.Proofs.YtaobdjdmmhglaaaW.PrintMore Go.Proofs.Ytaobdjdmmhglaaa.PFnExactSettleInOrder Go.Proofs.Ytaobdjdmmhglaaa.EvKit Go.Proofs.Ytaobdjdmmhglaaa.Pure
set_option linter.unusedVariables false
set_option linter.unusedSimpArgs false
attribute [local go_sem] max2_int min2_int max_two min_two max_three min_three max_four min_four
/-- A number of rounds at which a printed function answers. -/
theorem roundsOf {α : Type} {g : Nat → Option α} {r : α} (h : Ev g r) : ∃ k, g k = some r := Ev.rounds h
theorem cellsOf {w : World} {b o : Nat} {xs : List Int} (h : (Kd.int .i64).C w (some ⟨b, o, none⟩) xs.length xs) : ∀ j, j < xs.length → w.cell? ⟨b, o + j, none⟩ = some (.int .i64 xs[j]!) := by
  intro j hj
  obtain ⟨ad, e, hc⟩ := Kd.at_int h (j : Int) (by omega) (by omega)
  injection e with e
  subst e
  rw [add_at] at hc
  rw [Int.toNat_natCast] at hc
  rw [hc, rd, Int.toNat_natCast, List.getD_eq_getElem?_getD, List.getElem?_eq_getElem hj, List.getElem!_eq_getElem?_getD, List.getElem?_eq_getElem hj]
  rfl
/-- Between two numbers. -/
def Iv (a b : Nat) (k : Nat) : Prop := a ≤ k ∧ k < b
theorem R_iv {α : Type} {d : Kd α} {e base : Nat} {ok : Nat → Prop} {w : World} {v : Value} {xs : List α} (h : d.R e w base ok v xs) : d.R e w base (Iv base w.heap.size) v xs := Kd.R_mono (Kd.R_bound h) (fun _ hk => ⟨hk.2.1, hk.2.2.1⟩)
/-- Where a row of one's own that is not empty begins. -/
theorem R_head {α : Type} {d : Kd α} {e base : Nat} {ok : Nat → Prop} {w : World} {A : Option Addr} {n c : Nat} {xs : List α} (h : d.R e w base ok (.slice A n c) xs) (hp : 0 < xs.length) : ∃ b, A = some ⟨b, 0, none⟩ := by
  obtain ⟨g, cap, e1, _⟩ := Kd.R_form h hp
  injection e1 with e1
  exact ⟨g, e1⟩
theorem R_ivw {α : Type} {d : Kd α} {e base a b : Nat} {ok : Nat → Prop} {w : World} {v : Value} {xs : List α} (h : d.R e w base ok v xs) (ha : a ≤ base) (hb : b ≤ base) : d.R e w b (Iv a w.heap.size) v xs := Kd.R_lower (Kd.R_mono (Kd.R_bound h) (fun _ hk => ⟨Nat.le_trans ha hk.2.1, hk.2.2.1⟩)) hb
/-- A row whose elements hold no rows lies in its own block alone. -/
theorem R_flat {α : Type} {d : Kd α} {e base : Nat} {ok ok' : Nat → Prop} {w : World} {v : Value} {xs : List α} (hf : ∀ (w : World) (b : Nat) (p q : Nat → Prop) x cs, d.M w b p x cs → d.M w b q x cs) (h : d.R e w base ok v xs) (h0 : ∀ k, v.ownBlock = some k → ok' k) : d.R e w base ok' v xs := ⟨h0, h.2.imp_ (fun _ _ hp => hf _ _ _ _ _ _ hp)⟩
theorem flat_int (w : World) (b : Nat) (p q : Nat → Prop) (x : Int) (cs : List Value) (h : (Kd.int .i64).M w b p x cs) : (Kd.int .i64).M w b q x cs := h
theorem cellsOfD {w : World} {b o m : Nat} {xs : List Int} (h : (Kd.int .i64).C w (some ⟨b, o, none⟩) m xs) : ∀ j, j < xs.length → w.cell? ⟨b, o + j, none⟩ = some (.int .i64 (xs.getD j 0)) := by
  intro j hj
  have hl := Kd.C_len h
  obtain ⟨ad, e, hc⟩ := Kd.at_int h (j : Int) (by omega) (by omega)
  injection e with e
  subst e
  rw [add_at, Int.toNat_natCast] at hc
  exact hc
theorem R_C {α : Type} {d : Kd α} {e base : Nat} {ok : Nat → Prop} {w : World} {A : Option Addr} {n c : Nat} {xs : List α} (h : d.R e w base ok (.slice A n c) xs) : d.C w A n xs := by
  obtain ⟨rfl, _, hc⟩ := Kd.R_reads' h
  exact hc
theorem R_cap {α : Type} {d : Kd α} {e base : Nat} {ok : Nat → Prop} {w : World} {A : Option Addr} {n c : Nat} {xs : List α} (h : d.R e w base ok (.slice A n c) xs) : n ≤ c := (Kd.R_reads' h).2.1
theorem R_same {α : Type} {d : Kd α} {e base : Nat} {ok : Nat → Prop} {w w1 : World} {v : Value} {xs : List α} (h : d.R e w base ok v xs) (hg : w.grownBy w1 none) : d.R e w1 base ok v xs := Kd.R_grown h hg (fun _ _ e => by cases e)
theorem R_block {α : Type} {d : Kd α} {e base g n c : Nat} {ok : Nat → Prop} {w : World} {xs : List α} (h : d.R e w base ok (.slice (some ⟨g, 0, none⟩) n c) xs) (hp : 0 < n) : ∃ cells, w.heap[g]? = some (.cells cells e (0, 0)) := by
  obtain ⟨e1, _, _⟩ := Kd.R_reads' h
  obtain ⟨g', cap, e2, _, _, cells, h3⟩ := Kd.R_form h (by omega)
  injection e2 with e2 _ _
  injection e2 with e2
  injection e2 with e2
  subst e2
  exact ⟨cells, h3⟩
def Lcl_ren : Go.Shelf.Ren := ⟨fun | 15 => 64 | n => n, fun | 3 => 3 | 4 => 4 | 22 => 31 | n => n, fun | n => n⟩
theorem Lcl : Go.Proofs.Lays2.n15 Try.prog Lcl_ren := {
  mixed := by kernel_rfl,
  f15 := Try.func64.trans (congrArg some (by kernel_rfl)),
  t3 := Try.underlying3,
  a3 := Try.isAgg3,
  z3 := Try.sizeOf3,
  v3 := Try.zeroValue3,
  t4 := Try.underlying4,
  a4 := Try.isAgg4,
  z4 := Try.sizeOf4,
  v4 := Try.zeroValue4,
  t22 := Try.underlying31,
  a22 := Try.isAgg31,
  z22 := Try.sizeOf31,
  v22 := Try.zeroValue31,
  i3 := by kernel_rfl }

/-- slices.Clone of whole numbers, not empty. -/
theorem cloneInt_c (b c : Nat) (xs : List Int) (w : World) (hr : (Kd.int .i64).C w (some ⟨b, 0, none⟩) xs.length xs) (hl : xs.length ≤ 1048576) :
    Calls Try.prog 64 #[.slice (some ⟨b, 0, none⟩) xs.length c] w fun e w' => ∃ v, e = .returned v ∧ (Kd.int .i64).R 3 w' w.heap.size (fun _ => True) v xs ∧ Below w.heap.size w w' :=
  (Any.slices_Clone_int Lcl b 0 xs.length c xs w (Nat.le_refl _) (by omega) (cellsOfD hr)).mono fun e w' ⟨v, he, ho, _, hb⟩ => ⟨v, he, Kd.R_of_own (by rw [List.take_length] at ho; exact ho) (fun _ _ => trivial), hb⟩
def Lcf_ren : Go.Shelf.Ren := ⟨fun | 6 => 80 | 8 => 73 | n => n, fun | 22 => 31 | 23 => 3 | 25 => 58 | n => n, fun | n => n⟩
theorem Lcf : Go.Proofs.SlLaysH.n8 Try.prog Lcf_ren := {
  mixed := by kernel_rfl,
  f6 := ⟨Try.f80.name, by decide, Try.func80.trans (congrArg some (by kernel_rfl))⟩,
  f8 := ⟨Try.f73.name, by decide, Try.func73.trans (congrArg some (by kernel_rfl))⟩,
  t0 := Try.underlying0,
  a0 := Try.isAgg0,
  z0 := Try.sizeOf0,
  v0 := Try.zeroValue0,
  t3 := Try.underlying3,
  a3 := Try.isAgg3,
  z3 := Try.sizeOf3,
  v3 := Try.zeroValue3,
  t4 := Try.underlying4,
  a4 := Try.isAgg4,
  z4 := Try.sizeOf4,
  v4 := Try.zeroValue4,
  t22 := Try.underlying31,
  a22 := Try.isAgg31,
  z22 := Try.sizeOf31,
  v22 := Try.zeroValue31,
  a23 := Try.isAgg3,
  z23 := Try.sizeOf3,
  t25 := Try.underlying58,
  a25 := Try.isAgg58,
  z25 := Try.sizeOf58,
  v25 := Try.zeroValue58 }

/-- slices.ContainsFunc over a row of whole numbers, a predicate given. -/
theorem containsFunc_c (g : Nat) (eg : ∀ args w, (callFunc g args).run Try.prog w = .ok (.enter g args) w) (lb : Array Value) (p : Int → Bool) (A : Option Addr) (c : Nat) (xs : List Int) (w : World) (hp : PredAt Try.prog g lb (Value.int .i64) p w) (hr : (Kd.int .i64).C w A xs.length xs) (ha : 0 < xs.length → ∃ b, A = some ⟨b, 0, none⟩) :
    Calls Try.prog 73 #[.slice A xs.length c, .func (.func g) #[] lb] w fun e w' => e = .returned (.bool (xs.any p)) ∧ ∃ q, w' = w.drewN q := by
  by_cases hp0 : 0 < xs.length
  · obtain ⟨b, rfl⟩ := ha hp0
    have h := AnyE.slices_ContainsFunc Lcf (Value.int .i64) p g lb eg b 0 xs.length c xs w hp (Nat.le_refl _) (Kd.C_max hr) (cellsOf hr)
    rw [List.take_length] at h
    exact h
  · obtain rfl : xs = [] := List.length_eq_zero_iff.mp (by omega)
    exact (AnyE.slices_ContainsFunc_empty Lcf A c _ w).mono fun e w' ⟨he, hw⟩ => ⟨he, 0, hw⟩
def okB (x : Int) : Bool := decide (0 ≤ x ∧ x ≤ 1000000000)
theorem balPred (w : World) : PredAt Try.prog 74 #[] (Value.int .i64) (fun x => !okB x) w := fun W x _ => by
  unfold FnGives
  have h : impl_within.f x 0 1000000000 = some (okB x) := by rw [within_eq]; rfl
  go_enter Try.func74, Try.ntmps74
  go_wp2_with (go_at_call 46; refine (impl_within.calls x 0 1000000000 _ _ h).mono ?_; rintro e w' ⟨rfl, ⟨n, rfl⟩⟩)
  go_ret
  exact ⟨rfl, n, rfl⟩
theorem goodB_any {bal : List Int} {p : Int} (h : (bal.length : Int) = p) : goodB bal p = !(bal.any (fun x => !okB x)) := by
  unfold goodB
  cases hq : bal.any (fun x => !okB x) with
  | true =>
    obtain ⟨x, hx, hx2⟩ := List.any_eq_true.mp hq
    refine decide_eq_false (fun g => ?_)
    have : okB x = true := decide_eq_true (g.2 x hx)
    rw [this] at hx2; cases hx2
  | false =>
    refine decide_eq_true ⟨h, fun x hx => ?_⟩
    have h1 := List.any_eq_false.mp hq x hx
    have h2 : okB x = true := by simpa using h1
    exact of_decide_eq_true h2
set_option maxHeartbeats 8000000 in
set_option maxRecDepth 100000 in
theorem areBal_c (A0 : Option Addr) (c0 : Nat) (xs : List S54) (p : Int) (A2 : Option Addr) (c2 : Nat) (bal : List Int) (w : World) (hr0 : Kd.C k54 w A0 xs.length xs) (hc0 : xs.length ≤ c0) (hr2 : (Kd.int .i64).C w A2 bal.length bal) (ha2 : 0 < bal.length → ∃ b, A2 = some ⟨b, 0, none⟩) (hn : xs.length ≤ 1048576) (hm : bal.length ≤ 1048576) :
    Calls Try.prog 63 #[.slice A0 xs.length c0, .int .i64 p, .slice A2 bal.length c2] w fun e w' => e = .returned (.bool (goodC xs p && goodB bal p)) ∧ Below w.heap.size w w' := by
  obtain ⟨kv, hv⟩ := roundsOf (implValidC_ev xs p hn)
  have EG := Aside0.mk (show ∀ args w, (callFunc 74 args).run Try.prog w = .ok (.enter 74 args) w from enters_of Try.func74 (by kernel_rfl) rfl)
  have HR0 := Aside0.mk hr0
  have HC0 := Aside0.mk hc0
  have HR2 := Aside0.mk hr2
  have HA2 := Aside0.mk ha2
  by_cases g : goodC xs p = true
  · rw [g] at hv
    have HV := Aside0.mk hv
    have HG := Aside0.mk g
    by_cases hl : (bal.length : Int) = p
    · have hq := goodB_any hl
      obtain ⟨q, hqe⟩ : ∃ q, q = bal.any (fun x => !okB x) := ⟨_, rfl⟩
      rw [← hqe] at hq
      have HQ := Aside0.mk hqe
      have HGB := Aside0.mk hq
      have cl : ((bal.length : Int) == p) = true := by rw [beq_iff_eq]; exact hl
      clear hv hr0 hc0 hr2 ha2 g hq hqe hn hl
      cases q with
      | true =>
        go_enter Try.func63, Try.ntmps63
        go_wp2_with (first
          | (go_at_call 16; refine (impl_IsValidClaims.calls kv _ _ xs _ true _ HR0.out HC0.out HV.out).mono ?_; rintro e w1 ⟨rfl, hb⟩; have HB := Aside0.mk hb; clear hb)
          | (go_at_call 73; refine (containsFunc_c 74 EG.out #[] (fun x => !okB x) _ _ bal _ (balPred _) (Kd.C_below HR2.out HB.out) HA2.out).mono ?_; rw [← HQ.out]; rintro e w2 ⟨rfl, ⟨q, rfl⟩⟩))
        go_ret
        rw [HG.out, HGB.out]
        exact ⟨rfl, (by repeat (first | (with_reducible first | exact HB.out | apply below_alloc | apply pw_below_drewN | apply below_drew1) | exact HB.out))⟩
      | false =>
        go_enter Try.func63, Try.ntmps63
        go_wp2_with (first
          | (go_at_call 16; refine (impl_IsValidClaims.calls kv _ _ xs _ true _ HR0.out HC0.out HV.out).mono ?_; rintro e w1 ⟨rfl, hb⟩; have HB := Aside0.mk hb; clear hb)
          | (go_at_call 73; refine (containsFunc_c 74 EG.out #[] (fun x => !okB x) _ _ bal _ (balPred _) (Kd.C_below HR2.out HB.out) HA2.out).mono ?_; rw [← HQ.out]; rintro e w2 ⟨rfl, ⟨q, rfl⟩⟩))
        go_ret
        rw [HG.out, HGB.out]
        exact ⟨rfl, (by repeat (first | (with_reducible first | exact HB.out | apply below_alloc | apply pw_below_drewN | apply below_drew1) | exact HB.out))⟩
    · have hgb : goodB bal p = false := decide_eq_false (fun q => hl q.1)
      have HGB := Aside0.mk hgb
      have cl : ((bal.length : Int) == p) = false := by rw [beq_eq_false_iff_ne]; exact hl
      clear hv hr0 hc0 hr2 ha2 g hn hl hgb
      go_enter Try.func63, Try.ntmps63
      go_wp2_with (go_at_call 16; refine (impl_IsValidClaims.calls kv _ _ xs _ true _ HR0.out HC0.out HV.out).mono ?_; rintro e w1 ⟨rfl, hb⟩; have HB := Aside0.mk hb; clear hb)
      go_ret
      rw [HG.out, HGB.out]
      exact ⟨rfl, HB.out⟩
  · have g' : goodC xs p = false := by simpa using g
    rw [g'] at hv
    have HV := Aside0.mk hv
    have HG := Aside0.mk g'
    clear hv hr0 hc0 hr2 ha2 g g' hn
    go_enter Try.func63, Try.ntmps63
    go_wp2_with (go_at_call 16; refine (impl_IsValidClaims.calls kv _ _ xs _ false _ HR0.out HC0.out HV.out).mono ?_; rintro e w1 ⟨rfl, hb⟩; have HB := Aside0.mk hb; clear hb)
    go_ret
    rw [HG.out]
    exact ⟨rfl, HB.out⟩
theorem R_ownlt {α : Type} {d : Kd α} {e base : Nat} {ok : Nat → Prop} {w : World} {v : Value} {xs : List α} (h : d.R e w base ok v xs) {k : Nat} (hk : v.ownBlock = some k) : base ≤ k ∧ k < w.heap.size := by
  obtain ⟨inner, ho⟩ := Kd.R_own h
  exact ⟨own_base ho k hk, own_lt ho k hk⟩
/-- A store into another block than the row's own. -/
theorem R_offset {base : Nat} {w : World} {v : Value} {xs : List Int} (h : (Kd.int .i64).R 3 w base (fun _ => True) v xs) {g : Nat} (hd : ∀ k, v.ownBlock = some k → k ≠ g) (j : Nat) (u : Value) : (Kd.int .i64).R 3 (w.setCell ⟨g, j, none⟩ u) base (fun _ => True) v xs :=
  Kd.R_mono (Kd.R_far (p := ⟨g, j, none⟩) (R_flat flat_int h hd) (fun k hk => hk) u) (fun _ _ => trivial)
/-- Another row was appended to. -/
theorem R_offrow {base : Nat} {w w1 : World} {u v : Value} {xs : List Int} (h : (Kd.int .i64).R 3 w base (fun _ => True) u xs) (hg : w.grownBy w1 v.ownBlock) (hd : ∀ k, u.ownBlock = some k → v.ownBlock ≠ some k) : (Kd.int .i64).R 3 w1 base (fun _ => True) u xs :=
  Kd.R_mono (Kd.R_grown (R_flat flat_int h (fun k hk => hd k hk)) hg (fun k hk e => hk e.symm)) (fun _ _ => trivial)
theorem off_app {w : World} {v v1 : Value} {g : Nat} (hd : ∀ k, v.ownBlock = some k → k ≠ g) (hg : g < w.heap.size) (hat : v1.ownBlock = v.ownBlock ∨ ∃ b, v1.ownBlock = some b ∧ w.heap.size ≤ b) : ∀ k, v1.ownBlock = some k → k ≠ g := by
  intro k hk
  rcases hat with e | ⟨b, e, hb⟩
  · exact hd k (e ▸ hk)
  · rw [e] at hk
    injection hk with hk
    omega
def IvP (a b : Nat) (o : Option Nat) (k : Nat) : Prop := Iv a b k ∧ o = some k
theorem R_ivp {base a b : Nat} {ok : Nat → Prop} {w : World} {v : Value} {xs : List Int} (h : (Kd.int .i64).R 3 w base ok v xs) (ha : a ≤ base) (hb : b ≤ base) : (Kd.int .i64).R 3 w b (IvP a w.heap.size v.ownBlock) v xs :=
  R_flat flat_int (R_ivw h ha hb) (fun k hk => ⟨(R_ivw h ha hb).1 k hk, hk⟩)
theorem infoI : (Try.prog.info? 3).map (fun i => (i.zero, i.size, i.bytes)) = some (some (.int .i64 0), 1, 8) := by kernel_rfl
set_option maxHeartbeats 8000000 in
set_option maxRecDepth 100000 in
theorem spec_c (A0 : Option Addr) (c0 : Nat) (xs : List S54) (p : Int) (A2 : Option Addr) (c2 : Nat) (bal : List Int) (w : World) (hr0 : Kd.C k54 w A0 xs.length xs) (hc0 : xs.length ≤ c0) (ha0 : 0 < xs.length → ∃ b, A0 = some ⟨b, 0, none⟩) (hn : xs.length ≤ 1048576) (hr2 : (Kd.int .i64).C w A2 bal.length bal) (hc2 : bal.length ≤ c2) (ha2 : 0 < bal.length → ∃ b, A2 = some ⟨b, 0, none⟩) (hm : bal.length ≤ 1048576) :
    Calls Try.prog 31 #[.slice A0 xs.length c0, .int .i64 p, .slice A2 bal.length c2] w fun e w' => ∃ v1 v2, e = .returned (.tuple #[v1, v2, .bool (setA xs p bal).2.2]) ∧ (Kd.int .i64).R 3 w' w.heap.size (fun _ => True) v1 (setA xs p bal).1 ∧ (Kd.int .i64).R 3 w' w.heap.size (fun _ => True) v2 (setA xs p bal).2.1 ∧ (∀ k, v1.ownBlock = some k → v2.ownBlock ≠ some k) ∧ Below w.heap.size w w' := by
  obtain ⟨kv, hv⟩ := roundsOf (specGoodC_ev xs p hn)
  obtain ⟨kb, hvb⟩ := roundsOf (specBal_ev bal p hm)
  obtain ⟨gc, hgc⟩ : ∃ q, q = goodC xs p := ⟨_, rfl⟩
  obtain ⟨gb, hgb⟩ : ∃ q, q = goodB bal p := ⟨_, rfl⟩
  rw [← hgc] at hv
  rw [← hgb] at hvb
  have HV := Aside0.mk hv
  have HVB := Aside0.mk hvb
  have HR0 := Aside0.mk hr0
  have HC0 := Aside0.mk hc0
  have HR2 := Aside0.mk hr2
  have HC2 := Aside0.mk hc2
  by_cases g : gc = true ∧ gb = true
  · obtain ⟨rfl, rfl⟩ := g
    have gg := of_decide_eq_true hgc.symm
    have gg2 := of_decide_eq_true hgb.symm
    obtain ⟨⟨p1, p2⟩, hx20, hok, hsum⟩ := gg
    obtain ⟨m, rfl⟩ := Int.eq_ofNat_of_zero_le (show 0 ≤ p from by omega)
    have hbl : bal.length = m := by have := gg2.1; omega
    have hfin : setA xs m bal = settleK xs (xs.length + 1) [] bal := by unfold setA; rw [if_pos ⟨hgc.symm, hgb.symm⟩]
    obtain ⟨bb, rfl⟩ := ha2 (by omega)
    have HBL := Aside0.mk hbl
    rw [hfin]
    obtain ⟨FIN, hFIN⟩ : ∃ F, F = settleK xs (xs.length + 1) [] bal := ⟨_, rfl⟩
    rw [← hFIN]
    have HF := Aside0.mk hFIN.symm
    have HOK := Aside0.mk hok
    have HBD := Aside0.mk gg2.2
    have HX20 := Aside0.mk hx20
    have m1 : 2 ≤ m := by omega
    have m2 : m ≤ 8 := by omega
    clear hv hvb hr0 hc0 hr2 hc2 hok hx20 hfin hsum ha0 p1 p2 gg2 hFIN ha2 hgc hgb hbl
    go_enter Try.func31, Try.ntmps31
    go_wp2_with ((with_reducible refine gate_dst (N := 14) rfl ?_); refine Kd.R_lit (Kd.int .i64) w.heap.size 3 (w0 := w) ?hg (N := 14) ?hd (xs := []) (inner := []) (ok := fun _ => True) (okp := fun _ => True) ?hr ?hp (fun _ hk => hk) trivial (by repeat (first | (with_reducible first | exact (Below.refl w.heap.size w) | apply below_alloc | apply pw_below_drewN | apply below_drew1) | exact (Below.refl w.heap.size w))) (below_size (by repeat (first | (with_reducible first | exact (Below.refl w.heap.size w) | apply below_alloc | apply pw_below_drewN | apply below_drew1) | exact (Below.refl w.heap.size w)))) (by simp) ?_; (case hd => rfl); (case hg => rfl); (case hr => first | (go_simp; done) | (go_simp; rfl)); (case hp => exact (Reps.none _ _)); intro v1 w1 ho hb hgr hnw)
    have HOUT := Aside0.mk ho
    have HB := Aside0.mk hb
    clear ho hb hgr hnw
    refine (spec_l16Good.calls kv _ _ xs _ true _ (by repeat (first | exact (Kd.C_below HR0.out HB.out) | (with_reducible refine Kd.C_alloc ?_ _) | (with_reducible refine Kd.C_drewN ?_ _) | (with_reducible refine Kd.C_drew ?_))) HC0.out HV.out).mono ?_
    rintro e w2 ⟨rfl, hb⟩
    have n_ := Aside0.mk (Kd.R_below (by (with_reducible repeat (first | apply Kd.R_alloc | apply Kd.R_drewN | apply Kd.R_drew)); exact HOUT.out) hb); clear HOUT; have HOUT := n_; clear n_; have n_ := Aside0.mk (below_step (by repeat (first | (with_reducible first | exact HB.out | apply below_alloc | apply pw_below_drewN | apply below_drew1) | exact HB.out)) hb); clear HB; have HB := n_; clear n_ hb
    go_wp2_with fail
    refine (spec_l16Balances.calls kb _ _ bal _ true _ (by repeat (first | exact (Kd.C_below HR2.out HB.out) | (with_reducible refine Kd.C_alloc ?_ _) | (with_reducible refine Kd.C_drewN ?_ _) | (with_reducible refine Kd.C_drew ?_))) HC2.out HVB.out).mono ?_
    rintro e w3 ⟨rfl, hb0⟩
    have hb := Drawn0.below hb0
    have n_ := Aside0.mk (Kd.R_below (by (with_reducible repeat (first | apply Kd.R_alloc | apply Kd.R_drewN | apply Kd.R_drew)); exact HOUT.out) hb); clear HOUT; have HOUT := n_; clear n_; have n_ := Aside0.mk (below_step (by repeat (first | (with_reducible first | exact HB.out | apply below_alloc | apply pw_below_drewN | apply below_drew1) | exact HB.out)) hb); clear HB; have HB := n_; clear n_ hb
    clear hb0
    go_wp2_with fail
    refine (spec_l1Own.calls _ _ bal bal _ (by repeat (first | exact (Kd.C_below HR2.out HB.out) | (with_reducible refine Kd.C_alloc ?_ _) | (with_reducible refine Kd.C_drewN ?_ _) | (with_reducible refine Kd.C_drew ?_))) HC2.out (own_eq bal hm)).mono ?_
    rintro e w4 ⟨v10, rfl, ho, hb⟩
    obtain ⟨g, cap, hv10, hg1, hg2, cells, hg3⟩ := Kd.R_form ho (by have := HBL.out; omega)
    rw [HBL.out] at hv10
    subst hv10
    have HO := Aside0.mk (Kd.R_lower ho (show w.heap.size ≤ _ from below_size HB.out))
    have HD := Aside0.mk (show ∀ k, v1.ownBlock = some k → k ≠ g from fun k hk => by have := (R_ownlt HOUT.out hk).2; have := hg1; omega)
    replace hg1 : w.heap.size ≤ g := Nat.le_trans (below_size HB.out) hg1
    have n_ := Aside0.mk (Kd.R_below (by (with_reducible repeat (first | apply Kd.R_alloc | apply Kd.R_drewN | apply Kd.R_drew)); exact HOUT.out) hb); clear HOUT; have HOUT := n_; clear n_; have n_ := Aside0.mk (below_step (by repeat (first | (with_reducible first | exact HB.out | apply below_alloc | apply pw_below_drewN | apply below_drew1) | exact HB.out)) hb); clear HB; have HB := n_; clear n_ hb
    clear ho hg2 hg3 cells
    go_wp2_with fail
    go_loopg [9, 11] (xs.length + 1) (fun kq vo v11 wr => ∃ (out b : List Int) (more : Bool), v11 = .bool more ∧ Aside0 (more = true → settleK xs kq out b = FIN ∧ miss xs.length out < kq) ∧ Aside0 (more = false → (out, b, true) = FIN) ∧ Aside0 (out.length + miss xs.length out = xs.length) ∧ Aside0 (b.length = m) ∧ Aside0 (∀ x ∈ b, 0 ≤ x ∧ x ≤ 1000000000) ∧ Aside0 (∀ k, vo.ownBlock = some k → k ≠ g) ∧ Aside0 ((Kd.int .i64).R 3 wr w.heap.size (fun _ => True) (.slice (some ⟨g, 0, none⟩) m cap) b) ∧ Aside0 ((Kd.int .i64).R 3 wr w.heap.size (fun _ => True) vo out) ∧ Aside0 (Below w.heap.size w wr))
    case atStart => exact ⟨[], bal, true, rfl, ⟨fun _ => ⟨HF.out, by rw [miss_nil]; omega⟩⟩, ⟨fun h => by cases h⟩, ⟨by rw [miss_nil]; simp⟩, HBL, HBD, HD, HO, HOUT, HB⟩
    case round =>
      clear HO HOUT HB HD
      obtain ⟨out, b, more, rfl, HMT, HMF, HLM, HL, HBD1, HD, HO, HOUT, HB⟩ := hrel
      cases more with
      | false =>
        go_wp2
        go_ret3
        rw [← HMF.out (by trivial)]
        exact ⟨_, _, rfl, (by (with_reducible repeat (first | apply Kd.R_alloc | apply Kd.R_drewN | apply Kd.R_drew)); exact HOUT.out), (by (with_reducible repeat (first | apply Kd.R_alloc | apply Kd.R_drewN | apply Kd.R_drew)); exact HO.out), fun k hk e => HD.out k hk (by injection e with e; exact e.symm), (by repeat (first | (with_reducible first | exact HB.out | apply below_alloc | apply pw_below_drewN | apply below_drew1) | exact HB.out))⟩
      | true =>
        obtain ⟨hset, hms⟩ := HMT.out (by trivial)
        obtain ⟨k1, rfl⟩ : ∃ k1, gk = k1 + 1 := ⟨gk - 1, by omega⟩
        obtain ⟨PASS, hP⟩ : ∃ P, P = passS xs 0 out b false := ⟨_, rfl⟩
        obtain ⟨ms, hmse⟩ : ∃ q, q = miss xs.length out := ⟨_, rfl⟩
        rw [← hmse] at hms
        have HMS := Aside0.mk (show ms ≤ k1 from by omega)
        have HPN := Aside0.mk (show PASS = none → FIN = ([], [], false) from fun h => by rw [← hset]; exact settleK_none (hP.symm.trans h))
        have HPM := Aside0.mk (show ∀ o b, some (o, b, true) = PASS → settleK xs k1 o b = FIN from fun o b h => by rw [← hset]; exact (settleK_more (hP.symm.trans h.symm)).symm)
        have HPD := Aside0.mk (show ∀ o b, some (o, b, false) = PASS → (o, b, true) = FIN from fun o b h => by rw [← hset]; exact (settleK_done (hP.symm.trans h.symm)).symm)
        have HP0 := Aside0.mk hP.symm
        have MSLE := Nat.le_of_eq hmse.symm
        clear hset hms hP hmse HMT HMF
        go_wp2
        go_loopw [9, 11, 12] (fun vo v11 vi wr => ∃ (pre rest : List S54) (out2 b2 : List Int) (more : Bool), Aside0 (xs = pre ++ rest) ∧ vi = .int .i64 pre.length ∧ v11 = .bool more ∧ Aside0 (passS rest pre.length out2 b2 more = PASS) ∧ Aside0 (more = true → miss xs.length out2 < ms) ∧ Aside0 (miss xs.length out2 ≤ ms) ∧ Aside0 (out2.length + miss xs.length out2 = xs.length) ∧ Aside0 (b2.length = m) ∧ Aside0 (∀ x ∈ b2, 0 ≤ x ∧ x ≤ 1000000000) ∧ Aside0 (∀ k, vo.ownBlock = some k → k ≠ g) ∧ Aside0 ((Kd.int .i64).R 3 wr w.heap.size (fun _ => True) (.slice (some ⟨g, 0, none⟩) m cap) b2) ∧ Aside0 ((Kd.int .i64).R 3 wr w.heap.size (fun _ => True) vo out2) ∧ Aside0 (Below w.heap.size w wr)) (fun _ _ vi _ => xs.length - (intOf vi).toNat)
        case atStart => exact ⟨[], xs, out, b, false, ⟨rfl⟩, rfl, rfl, HP0, ⟨fun h => by cases h⟩, ⟨MSLE⟩, HLM, HL, HBD1, HD, HO, HOUT, HB⟩
        case round =>
          clear HO HOUT HB HD HBD1 HL HLM HP0
          obtain ⟨pre, rest, out2, b2, more, HX, rfl, rfl, HPS, HLT, HLE, HLM, HL, HBD2, HD, HO, HOUT, HB⟩ := hrel
          cases rest with
          | nil =>
            have c : decide (pre.length < xs.length) = false := decide_eq_false (by have := len_nil HX.out; omega)
            go_wp2
            go_roundg k1
            case rel => exact ⟨out2, b2, more, rfl, ⟨fun h => ⟨HPM.out _ _ (by rw [← h]; exact HPS.out), by have := HLT.out h; have := HMS.out; omega⟩⟩, ⟨fun h => HPD.out _ _ (by rw [← h]; exact HPS.out)⟩, HLM, HL, HBD2, HD, HO, HOUT, HB⟩
            case measure => omega
          | cons a t =>
            have hlt := len_cons HX.out
            have hpl : (pre.length : Int) < xs.length := by omega
            have ha := HOK.out a (by rw [HX.out]; simp)
            have HA := Aside0.mk ha
            have p0 := ha.1.1
            have q0 : a.f0 < (m : Int) := by have := ha.1.2; omega
            have p1 := ha.2.1.1
            have q1 : a.f1 < (m : Int) := by have := ha.2.1.2; omega
            have a2 := ha.2.2.2
            obtain ⟨ad, e0, hx0, hx1, hx2⟩ := at_T54 HR0.out (pre.length : Int) (by omega) hpl
            rw [rd_T54_at HX.out rfl] at hx0 hx1 hx2
            simp only [Int.toNat_natCast] at hx0 hx1 hx2
            cases e0
            replace hx0 := (HB.out.cell (World.block_lt_of_cell? w _ hx0)).trans hx0
            replace hx1 := (HB.out.cell (World.block_lt_of_cell? w _ hx1)).trans hx1
            replace hx2 := (HB.out.cell (World.block_lt_of_cell? w _ hx2)).trans hx2
            have c : decide (pre.length < xs.length) = true := decide_eq_true (by omega)
            have c' : pre.length < xs.length := by omega
            clear hlt
            obtain ⟨Ao, co, hvo⟩ := Kd.R_slice HOUT.out
            subst hvo
            have HSN := Aside0.mk (snoc HX.out)
            have HCO := Aside0.mk (R_cap HOUT.out)
            have hol : out2.length ≤ 20 := by have := HLM.out; have := HX20.out; omega
            have HOL := Aside0.mk hol
            go_upto_region 12 with (fail)
            clear hx0 hx1 hx2
            obtain ⟨W1, hW1⟩ : ∃ W1, W1 = wr.alloc (.cells #[.int .i64 a.f0, .int .i64 a.f1, .int .i64 a.f2] 54) := ⟨_, rfl⟩
            have HK := Aside0.mk (show W1.heap[wr.heap.size]? = some (.cells #[.int .i64 a.f0, .int .i64 a.f1, .int .i64 a.f2] 54 (0, 0)) from by rw [hW1]; exact blk_new wr _)
            have HO1 := Aside0.mk (show (Kd.int .i64).R 3 W1 w.heap.size (fun _ => True) (.slice (some ⟨g, 0, none⟩) m cap) b2 from by rw [hW1]; exact Kd.R_alloc HO.out _)
            have HOUT1 := Aside0.mk (show (Kd.int .i64).R 3 W1 w.heap.size (fun _ => True) (.slice Ao out2.length co) out2 from by rw [hW1]; exact Kd.R_alloc HOUT.out _)
            have HB1 := Aside0.mk (show Below w.heap.size w W1 from by rw [hW1]; exact below_alloc HB.out _)
            have gB : wr.heap.size ≠ g := Nat.ne_of_gt (R_ownlt HO.out rfl).2
            rw [← hW1]
            clear hW1 HO HOUT HB
            generalize wr.heap.size = B at HK gB ⊢
            have hk0 := (blk_cell HK.out 0).trans rfl
            have hk1 := (blk_cell HK.out 1).trans rfl
            have hk2 := (blk_cell HK.out 2).trans rfl
            have hy := (Kd.R_celln 0 HO1.out a.f0 p0 q0).1
            obtain ⟨VA, hVA⟩ : ∃ v, v = rd b2 a.f0 := ⟨_, rfl⟩
            rw [show rdOf 0 b2 a.f0 = VA from hVA.symm] at hy
            have bVA : 0 ≤ VA ∧ VA ≤ 1000000000 := by rw [hVA]; exact HBD2.out _ (rd_mem (l := b2) (i := a.f0) p0 (by have := HL.out; omega))
            have HVA := Aside0.mk hVA
            clear hVA
            by_cases c1 : (pre.length : Int) ∈ out2
            · obtain ⟨kh, hh⟩ := roundsOf (specHas_ev out2 (pre.length : Int) (by omega))
              rw [decide_eq_true c1] at hh
              have HH := Aside0.mk hh
              have HPS1 := Aside0.mk ((passS_skip (.inl c1)).symm.trans HPS.out)
              clear hh c1
              go_quiet ((go_at_call 62; exact Calls.quiet_of ((spec_l1Has.calls kh _ _ out2 _ _ _ (by repeat (first | exact (R_C HOUT1.out) | (with_reducible refine Kd.C_alloc ?_ _) | (with_reducible refine Kd.C_drewN ?_ _) | (with_reducible refine Kd.C_drew ?_))) HCO.out HH.out).mono fun e w' ⟨he, ⟨n, hw⟩⟩ => ⟨he, n, hw⟩)))
              go_wp2
              go_roundw
              case rel => exact ⟨pre ++ [a], t, out2, b2, more, HSN, by rw [len_snoc], rfl, ⟨by rw [len_snoc]; exact HPS1.out⟩, HLT, HLE, HLM, HL, HBD2, HD, ⟨(by (with_reducible repeat (first | apply Kd.R_alloc | apply Kd.R_drewN | apply Kd.R_drew)); exact HO1.out)⟩, ⟨(by (with_reducible repeat (first | apply Kd.R_alloc | apply Kd.R_drewN | apply Kd.R_drew)); exact HOUT1.out)⟩, ⟨(by repeat (first | (with_reducible first | exact HB1.out | apply below_alloc | apply pw_below_drewN | apply below_drew1) | exact HB1.out))⟩⟩
              case measure => simp [intOf]; omega
            · obtain ⟨kh, hh⟩ := roundsOf (specHas_ev out2 (pre.length : Int) (by omega))
              rw [decide_eq_false c1] at hh
              have HH := Aside0.mk hh
              have HC1 := Aside0.mk c1
              clear hh c1
              by_cases c2 : VA < a.f2
              · have c2b : decide (VA < a.f2) = true := decide_eq_true c2
                have HPS1 := Aside0.mk ((passS_skip (.inr (by rw [← HVA.out]; exact c2))).symm.trans HPS.out)
                clear c2
                go_quiet ((go_at_call 62; exact Calls.quiet_of ((spec_l1Has.calls kh _ _ out2 _ _ _ (by repeat (first | exact (R_C HOUT1.out) | (with_reducible refine Kd.C_alloc ?_ _) | (with_reducible refine Kd.C_drewN ?_ _) | (with_reducible refine Kd.C_drew ?_))) HCO.out HH.out).mono fun e w' ⟨he, ⟨n, hw⟩⟩ => ⟨he, n, hw⟩)))
                go_wp2
                go_roundw
                case rel => exact ⟨pre ++ [a], t, out2, b2, more, HSN, by rw [len_snoc], rfl, ⟨by rw [len_snoc]; exact HPS1.out⟩, HLT, HLE, HLM, HL, HBD2, HD, ⟨(by (with_reducible repeat (first | apply Kd.R_alloc | apply Kd.R_drewN | apply Kd.R_drew)); exact HO1.out)⟩, ⟨(by (with_reducible repeat (first | apply Kd.R_alloc | apply Kd.R_drewN | apply Kd.R_drew)); exact HOUT1.out)⟩, ⟨(by repeat (first | (with_reducible first | exact HB1.out | apply below_alloc | apply pw_below_drewN | apply below_drew1) | exact HB1.out))⟩⟩
                case measure => simp [intOf]; omega
              · have c2b : decide (VA < a.f2) = false := decide_eq_false c2
                have HC2N := Aside0.mk (show ¬ rd b2 a.f0 < a.f2 from by rw [← HVA.out]; exact c2)
                clear c2
                go_quiet ((go_at_call 62; exact Calls.quiet_of ((spec_l1Has.calls kh _ _ out2 _ _ _ (by repeat (first | exact (R_C HOUT1.out) | (with_reducible refine Kd.C_alloc ?_ _) | (with_reducible refine Kd.C_drewN ?_ _) | (with_reducible refine Kd.C_drew ?_))) HCO.out HH.out).mono fun e w' ⟨he, ⟨n, hw⟩⟩ => ⟨he, n, hw⟩)))
                clear hy hk0 hk1 hk2
                have HO2 := Aside0.mk (show (Kd.int .i64).R 3 (W1.drewN nq) w.heap.size (fun _ => True) (.slice (some ⟨g, 0, none⟩) m cap) b2 from Kd.R_drewN HO1.out _)
                have HOUT2 := Aside0.mk (show (Kd.int .i64).R 3 (W1.drewN nq) w.heap.size (fun _ => True) (.slice Ao out2.length co) out2 from Kd.R_drewN HOUT1.out _)
                have HB2 := Aside0.mk (show Below w.heap.size w (W1.drewN nq) from pw_below_drewN HB1.out _)
                have HK2 := Aside0.mk (show (W1.drewN nq).heap[B]? = some (.cells #[.int .i64 a.f0, .int .i64 a.f1, .int .i64 a.f2] 54 (0, 0)) from HK.out)
                generalize W1.drewN nq = W2 at HO2 HOUT2 HB2 HK2 ⊢
                clear HK HO1 HOUT1 HB1
                obtain ⟨ps1, ps2, ps3, _, bVB⟩ := rd_posStep1 HA.out HL.out HBD2.out HC2N.out
                obtain ⟨VB, hVB⟩ : ∃ v, v = rd b2 a.f1 := ⟨_, rfl⟩
                rw [← hVB] at ps1 ps2 ps3 bVB
                rw [← HVA.out] at ps1 ps2
                have HP1 := Aside0.mk ps1
                have HP2 := Aside0.mk ps2
                have HP3 := Aside0.mk ps3
                clear hVB ps1 ps2 ps3
                have hk0 := (blk_cell HK2.out 0).trans rfl
                have hk2 := (blk_cell HK2.out 2).trans rfl
                have hy := Kd.R_celln 0 HO2.out a.f0 p0 q0
                rw [show rdOf 0 b2 a.f0 = VA from HVA.out.symm] at hy
                obtain ⟨hy, hf⟩ := hy
                go_upto_region 13 with (fail)
                go_region
                clear hk0 hk2 hy hf
                go_upto_region 14 with (fail)
                have HO3 := Aside0.mk (Kd.R_drew (Kd.R_putn HO2.out a.f0 (VA - a.f2)))
                have HOUT3 := Aside0.mk (Kd.R_drew (R_offset HOUT2.out HD.out a.f0.toNat (.int .i64 (VA - a.f2))))
                have HB3 := Aside0.mk (below_drew (below_set (j := a.f0.toNat) (v := .int .i64 (VA - a.f2)) HB2.out hg1))
                have HK3 := Aside0.mk (blk_drew (blk_far HK2.out (p := ⟨g, a.f0.toNat, none⟩) gB (.int .i64 (VA - a.f2))))
                generalize (W2.setCell ⟨g, a.f0.toNat, none⟩ (.int .i64 (VA - a.f2))).drew = W3 at HO3 HOUT3 HB3 HK3 ⊢
                clear HK2 HO2 HOUT2 HB2
                have hk1 := (blk_cell HK3.out 1).trans rfl
                have hk2 := (blk_cell HK3.out 2).trans rfl
                have hy := Kd.R_celln 0 HO3.out a.f1 p1 q1
                rw [show rdOf 0 (b2.set a.f0.toNat (VA - a.f2)) a.f1 = VB from HP2.out] at hy
                obtain ⟨hy, hf⟩ := hy
                go_region
                clear hk1 hk2 hy hf
                go_upto_region 15 with (fail)
                have HO4 := Aside0.mk (Kd.R_drew (Kd.R_putn HO3.out a.f1 (VB + a.f2)))
                have HOUT4 := Aside0.mk (Kd.R_drew (R_offset HOUT3.out HD.out a.f1.toNat (.int .i64 (VB + a.f2))))
                have HB4 := Aside0.mk (below_drew (below_set (j := a.f1.toNat) (v := .int .i64 (VB + a.f2)) HB3.out hg1))
                have HK4 := Aside0.mk (blk_drew (blk_far HK3.out (p := ⟨g, a.f1.toNat, none⟩) gB (.int .i64 (VB + a.f2))))
                generalize (W3.setCell ⟨g, a.f1.toNat, none⟩ (.int .i64 (VB + a.f2))).drew = W4 at HO4 HOUT4 HB4 HK4 ⊢
                clear HK3 HO3 HOUT3 HB3
                rw [← HP1.out] at HO4
                have hk1 := (blk_cell HK4.out 1).trans rfl
                have hy := (Kd.R_celln 0 HO4.out a.f1 p1 q1).1
                rw [show rdOf 0 (posStep b2 a) a.f1 = VB + a.f2 from HP3.out] at hy
                by_cases c3 : 1000000000 < VB + a.f2
                · have c3b : decide (1000000000 < VB + a.f2) = true := decide_eq_true c3
                  have hend := passS_over (t := t) (more := more) HC1.out HC2N.out (by rw [HP3.out]; exact c3)
                  have HEND := Aside0.mk (HPN.out (HPS.out.symm.trans hend))
                  clear c3 hend
                  go_upto_region 16 with (fail)
                  clear hy hk1
                  go_wp2_with (first
                    | (((with_reducible refine gate_dst (N := 83) rfl ?_); refine Kd.R_lit (Kd.int .i64) w.heap.size 3 (w0 := w) ?hg (N := 83) ?hd (xs := []) (inner := []) (ok := fun _ => True) (okp := fun _ => True) ?hr ?hp (fun _ hk => hk) trivial (by repeat (first | (with_reducible first | exact HB4.out | apply below_alloc | apply pw_below_drewN | apply below_drew1) | exact HB4.out)) (below_size (by repeat (first | (with_reducible first | exact HB4.out | apply below_alloc | apply pw_below_drewN | apply below_drew1) | exact HB4.out))) (by simp) ?_; (case hd => rfl); (case hg => rfl); (case hr => first | (go_simp; done) | (go_simp; rfl)); (case hp => exact (Reps.none _ _)); intro v1 w1 ho hb hgr hnw); have HE1 := Aside0.mk ho; have HBE := Aside0.mk hb; clear ho hb hgr hnw HO4 HOUT4 HB4 HK4)
                    | (((with_reducible refine gate_dst (N := 84) rfl ?_); refine Kd.R_lit (Kd.int .i64) w.heap.size 3 (w0 := w) ?hg (N := 84) ?hd (xs := []) (inner := []) (ok := fun _ => True) (okp := fun _ => True) ?hr ?hp (fun _ hk => hk) trivial (by repeat (first | (with_reducible first | exact HBE.out | apply below_alloc | apply pw_below_drewN | apply below_drew1) | exact HBE.out)) (below_size (by repeat (first | (with_reducible first | exact HBE.out | apply below_alloc | apply pw_below_drewN | apply below_drew1) | exact HBE.out))) (by simp) ?_; (case hd => rfl); (case hg => rfl); (case hr => first | (go_simp; done) | (go_simp; rfl)); (case hp => exact (Reps.none _ _)); intro v1 w1 ho hb hgr hnw); have HE2 := Aside0.mk (R_same (by (with_reducible repeat (first | apply Kd.R_alloc | apply Kd.R_drewN | apply Kd.R_drew)); exact HE1.out) hgr)))
                  obtain ⟨bq, hq1, hq2⟩ := hnw
                  go_ret3
                  rw [HEND.out]
                  exact ⟨_, _, rfl, (by (with_reducible repeat (first | apply Kd.R_alloc | apply Kd.R_drewN | apply Kd.R_drew)); exact HE2.out), (by (with_reducible repeat (first | apply Kd.R_alloc | apply Kd.R_drewN | apply Kd.R_drew)); exact ho), fun k hk e => by have h1 := (R_ownlt HE1.out hk).2; have e2 : v1.ownBlock = some k := e; rw [hq1] at e2; injection e2 with e2; omega, (by repeat (first | (with_reducible first | exact hb | apply below_alloc | apply pw_below_drewN | apply below_drew1) | exact hb))⟩
                · have c3b : decide (1000000000 < VB + a.f2) = false := decide_eq_false c3
                  have htk := passS_take (t := t) (more := more) HC1.out HC2N.out (by rw [HP3.out]; exact c3)
                  have HPS1 := Aside0.mk (htk.symm.trans HPS.out)
                  have hok1 := posStep_ok HA.out HL.out HBD2.out HC2N.out (by rw [HP3.out]; exact c3)
                  have HBD3 := Aside0.mk hok1
                  have hms := miss_add (l := out2) (i := pre.length) HC1.out xs.length c'
                  have HMI := Aside0.mk hms
                  clear c3 htk hok1 hms
                  go_upto_region 17 with (fail)
                  clear hy hk1
                  go_upto_region 18 with ((with_reducible refine gate_builtin (b := .append) (xs := #[.tmp 85, .tmp 87]) rfl ?_); at_builtin; refine Kd.R_append (Kd.int .i64) (w0 := w) w.heap.size rfl (.tmp 85) (.tmp 87) 31 3 (.int .i64 0) 8 rfl Try.underlying31 infoI rfl (by decide) (by omega) (.slice Ao out2.length co) out2 (pre.length : Int) [.int .i64 pre.length] (fun _ => True) (fun _ => False) rfl rfl ?aP (fun _ hk => hk.elim) ?aF ?aO ?aB ?aS ?aL ?_; (case aP => exact rfl); (case aB => exact (by repeat (first | (with_reducible first | exact HB4.out | apply below_alloc | apply pw_below_drewN | apply below_drew1) | exact HB4.out))); (case aF => exact (fun _ _ => trivial)); (case aO => exact (by (with_reducible repeat (first | apply Kd.R_alloc | apply Kd.R_drewN | apply Kd.R_drew)); exact HOUT4.out)); (case aS => exact (below_size (by repeat (first | (with_reducible first | exact HB4.out | apply below_alloc | apply pw_below_drewN | apply below_drew1) | exact HB4.out)))); (case aL => omega); intro v1 w1 ho hb hg hat)
                  have HO5 := Aside0.mk (R_offrow (by (with_reducible repeat (first | apply Kd.R_alloc | apply Kd.R_drewN | apply Kd.R_drew)); exact HO4.out) hg (fun k hk e => HD.out k e (by injection hk with hk; exact hk.symm)))
                  have HOUT5 := Aside0.mk ho
                  have HB5 := Aside0.mk hb
                  have HD5 := Aside0.mk (off_app HD.out (R_ownlt HO4.out rfl).2 hat)
                  clear ho hb hg hat HO4 HOUT4 HB4 HK4 HD
                  go_wp2
                  go_roundw
                  case rel => exact ⟨pre ++ [a], t, out2 ++ [(pre.length : Int)], posStep b2 a, true, HSN, by rw [len_snoc], rfl, ⟨by rw [len_snoc]; exact HPS1.out⟩, ⟨fun _ => by have := HMI.out; have := HLE.out; omega⟩, ⟨by have := HMI.out; have := HLE.out; omega⟩, ⟨by rw [List.length_append, List.length_singleton]; have := HMI.out; have := HLM.out; omega⟩, ⟨by rw [posStep_length]; exact HL.out⟩, HBD3, HD5, ⟨(by (with_reducible repeat (first | apply Kd.R_alloc | apply Kd.R_drewN | apply Kd.R_drew)); exact HO5.out)⟩, ⟨(by (with_reducible repeat (first | apply Kd.R_alloc | apply Kd.R_drewN | apply Kd.R_drew)); exact HOUT5.out)⟩, ⟨(by repeat (first | (with_reducible first | exact HB5.out | apply below_alloc | apply pw_below_drewN | apply below_drew1) | exact HB5.out))⟩⟩
                  case measure => simp [intOf]; omega
  · have hfin : setA xs p bal = ([], [], false) := by unfold setA; rw [if_neg (by rw [← hgc, ← hgb]; exact g)]
    rw [hfin]
    cases gc with
    | false =>
      clear hfin ha0 ha2 hgc hgb g hvb hv hr0 hc0 hr2 hc2
      go_enter Try.func31, Try.ntmps31
      go_wp2_with ((with_reducible refine gate_dst (N := 14) rfl ?_); refine Kd.R_lit (Kd.int .i64) w.heap.size 3 (w0 := w) ?hg (N := 14) ?hd (xs := []) (inner := []) (ok := fun _ => True) (okp := fun _ => True) ?hr ?hp (fun _ hk => hk) trivial (by repeat (first | (with_reducible first | exact (Below.refl w.heap.size w) | apply below_alloc | apply pw_below_drewN | apply below_drew1) | exact (Below.refl w.heap.size w))) (below_size (by repeat (first | (with_reducible first | exact (Below.refl w.heap.size w) | apply below_alloc | apply pw_below_drewN | apply below_drew1) | exact (Below.refl w.heap.size w)))) (by simp) ?_; (case hd => rfl); (case hg => rfl); (case hr => first | (go_simp; done) | (go_simp; rfl)); (case hp => exact (Reps.none _ _)); intro v1 w1 ho hb hgr hnw)
      have HOUT := Aside0.mk ho
      have HB := Aside0.mk hb
      clear ho hb hgr hnw
      refine (spec_l16Good.calls kv _ _ xs _ false _ (by repeat (first | exact (Kd.C_below HR0.out HB.out) | (with_reducible refine Kd.C_alloc ?_ _) | (with_reducible refine Kd.C_drewN ?_ _) | (with_reducible refine Kd.C_drew ?_))) HC0.out HV.out).mono ?_
      rintro e w2 ⟨rfl, hb⟩
      have n_ := Aside0.mk (Kd.R_below (by (with_reducible repeat (first | apply Kd.R_alloc | apply Kd.R_drewN | apply Kd.R_drew)); exact HOUT.out) hb); clear HOUT; have HOUT := n_; clear n_; have n_ := Aside0.mk (below_step (by repeat (first | (with_reducible first | exact HB.out | apply below_alloc | apply pw_below_drewN | apply below_drew1) | exact HB.out)) hb); clear HB; have HB := n_; clear n_ hb
      go_wp2_with (((with_reducible refine gate_dst (N := 26) rfl ?_); refine Kd.R_lit (Kd.int .i64) w.heap.size 3 (w0 := w) ?hg (N := 26) ?hd (xs := []) (inner := []) (ok := fun _ => True) (okp := fun _ => True) ?hr ?hp (fun _ hk => hk) trivial (by repeat (first | (with_reducible first | exact HB.out | apply below_alloc | apply pw_below_drewN | apply below_drew1) | exact HB.out)) (below_size (by repeat (first | (with_reducible first | exact HB.out | apply below_alloc | apply pw_below_drewN | apply below_drew1) | exact HB.out))) (by simp) ?_; (case hd => rfl); (case hg => rfl); (case hr => first | (go_simp; done) | (go_simp; rfl)); (case hp => exact (Reps.none _ _)); intro v1 w1 ho hb hgr hnw); have HE2 := Aside0.mk (R_same (by (with_reducible repeat (first | apply Kd.R_alloc | apply Kd.R_drewN | apply Kd.R_drew)); exact HOUT.out) hgr))
      obtain ⟨bq, hq1, hq2⟩ := hnw
      go_ret3
      exact ⟨_, _, rfl, (by (with_reducible repeat (first | apply Kd.R_alloc | apply Kd.R_drewN | apply Kd.R_drew)); exact HE2.out), (by (with_reducible repeat (first | apply Kd.R_alloc | apply Kd.R_drewN | apply Kd.R_drew)); exact ho), fun k hk e => by have h1 := (R_ownlt HOUT.out hk).2; have e2 : v1.ownBlock = some k := e; rw [hq1] at e2; injection e2 with e2; omega, (by repeat (first | (with_reducible first | exact hb | apply below_alloc | apply pw_below_drewN | apply below_drew1) | exact hb))⟩
    | true =>
      cases gb with
      | true => exact absurd ⟨rfl, rfl⟩ g
      | false =>
        clear hfin ha0 ha2 hgc hgb g hvb hv hr0 hc0 hr2 hc2
        go_enter Try.func31, Try.ntmps31
        go_wp2_with ((with_reducible refine gate_dst (N := 14) rfl ?_); refine Kd.R_lit (Kd.int .i64) w.heap.size 3 (w0 := w) ?hg (N := 14) ?hd (xs := []) (inner := []) (ok := fun _ => True) (okp := fun _ => True) ?hr ?hp (fun _ hk => hk) trivial (by repeat (first | (with_reducible first | exact (Below.refl w.heap.size w) | apply below_alloc | apply pw_below_drewN | apply below_drew1) | exact (Below.refl w.heap.size w))) (below_size (by repeat (first | (with_reducible first | exact (Below.refl w.heap.size w) | apply below_alloc | apply pw_below_drewN | apply below_drew1) | exact (Below.refl w.heap.size w)))) (by simp) ?_; (case hd => rfl); (case hg => rfl); (case hr => first | (go_simp; done) | (go_simp; rfl)); (case hp => exact (Reps.none _ _)); intro v1 w1 ho hb hgr hnw)
        have HOUT := Aside0.mk ho
        have HB := Aside0.mk hb
        clear ho hb hgr hnw
        refine (spec_l16Good.calls kv _ _ xs _ true _ (by repeat (first | exact (Kd.C_below HR0.out HB.out) | (with_reducible refine Kd.C_alloc ?_ _) | (with_reducible refine Kd.C_drewN ?_ _) | (with_reducible refine Kd.C_drew ?_))) HC0.out HV.out).mono ?_
        rintro e w2 ⟨rfl, hb⟩
        have n_ := Aside0.mk (Kd.R_below (by (with_reducible repeat (first | apply Kd.R_alloc | apply Kd.R_drewN | apply Kd.R_drew)); exact HOUT.out) hb); clear HOUT; have HOUT := n_; clear n_; have n_ := Aside0.mk (below_step (by repeat (first | (with_reducible first | exact HB.out | apply below_alloc | apply pw_below_drewN | apply below_drew1) | exact HB.out)) hb); clear HB; have HB := n_; clear n_ hb
        go_wp2_with fail
        refine (spec_l16Balances.calls kb _ _ bal _ false _ (by repeat (first | exact (Kd.C_below HR2.out HB.out) | (with_reducible refine Kd.C_alloc ?_ _) | (with_reducible refine Kd.C_drewN ?_ _) | (with_reducible refine Kd.C_drew ?_))) HC2.out HVB.out).mono ?_
        rintro e w3 ⟨rfl, hb0⟩
        have hb := Drawn0.below hb0
        have n_ := Aside0.mk (Kd.R_below (by (with_reducible repeat (first | apply Kd.R_alloc | apply Kd.R_drewN | apply Kd.R_drew)); exact HOUT.out) hb); clear HOUT; have HOUT := n_; clear n_; have n_ := Aside0.mk (below_step (by repeat (first | (with_reducible first | exact HB.out | apply below_alloc | apply pw_below_drewN | apply below_drew1) | exact HB.out)) hb); clear HB; have HB := n_; clear n_ hb
        clear hb0
        go_wp2_with (((with_reducible refine gate_dst (N := 26) rfl ?_); refine Kd.R_lit (Kd.int .i64) w.heap.size 3 (w0 := w) ?hg (N := 26) ?hd (xs := []) (inner := []) (ok := fun _ => True) (okp := fun _ => True) ?hr ?hp (fun _ hk => hk) trivial (by repeat (first | (with_reducible first | exact HB.out | apply below_alloc | apply pw_below_drewN | apply below_drew1) | exact HB.out)) (below_size (by repeat (first | (with_reducible first | exact HB.out | apply below_alloc | apply pw_below_drewN | apply below_drew1) | exact HB.out))) (by simp) ?_; (case hd => rfl); (case hg => rfl); (case hr => first | (go_simp; done) | (go_simp; rfl)); (case hp => exact (Reps.none _ _)); intro v1 w1 ho hb hgr hnw); have HE2 := Aside0.mk (R_same (by (with_reducible repeat (first | apply Kd.R_alloc | apply Kd.R_drewN | apply Kd.R_drew)); exact HOUT.out) hgr))
        obtain ⟨bq, hq1, hq2⟩ := hnw
        go_ret3
        exact ⟨_, _, rfl, (by (with_reducible repeat (first | apply Kd.R_alloc | apply Kd.R_drewN | apply Kd.R_drew)); exact HE2.out), (by (with_reducible repeat (first | apply Kd.R_alloc | apply Kd.R_drewN | apply Kd.R_drew)); exact ho), fun k hk e => by have h1 := (R_ownlt HOUT.out hk).2; have e2 : v1.ownBlock = some k := e; rw [hq1] at e2; injection e2 with e2; omega, (by repeat (first | (with_reducible first | exact hb | apply below_alloc | apply pw_below_drewN | apply below_drew1) | exact hb))⟩
set_option maxHeartbeats 8000000 in
set_option maxRecDepth 100000 in
theorem impl_c (A0 : Option Addr) (c0 : Nat) (xs : List S54) (p : Int) (A2 : Option Addr) (c2 : Nat) (bal : List Int) (w : World) (hr0 : Kd.C k54 w A0 xs.length xs) (hc0 : xs.length ≤ c0) (ha0 : 0 < xs.length → ∃ b, A0 = some ⟨b, 0, none⟩) (hn : xs.length ≤ 1048576) (hr2 : (Kd.int .i64).C w A2 bal.length bal) (hc2 : bal.length ≤ c2) (ha2 : 0 < bal.length → ∃ b, A2 = some ⟨b, 0, none⟩) (hm : bal.length ≤ 1048576) :
    Calls Try.prog 33 #[.slice A0 xs.length c0, .int .i64 p, .slice A2 bal.length c2] w fun e w' => ∃ v1 v2, e = .returned (.tuple #[v1, v2, .bool (setA xs p bal).2.2]) ∧ (Kd.int .i64).R 3 w' w.heap.size (fun _ => True) v1 (setA xs p bal).1 ∧ (Kd.int .i64).R 3 w' w.heap.size (fun _ => True) v2 (setA xs p bal).2.1 ∧ (∀ k, v1.ownBlock = some k → v2.ownBlock ≠ some k) ∧ Below w.heap.size w w' := by

  obtain ⟨gc, hgc⟩ : ∃ q, q = goodC xs p := ⟨_, rfl⟩
  obtain ⟨gb, hgb⟩ : ∃ q, q = goodB bal p := ⟨_, rfl⟩

  have HR0 := Aside0.mk hr0
  have HC0 := Aside0.mk hc0
  have HR2 := Aside0.mk hr2
  have HC2 := Aside0.mk hc2
  by_cases g : gc = true ∧ gb = true
  · obtain ⟨rfl, rfl⟩ := g
    have gg := of_decide_eq_true hgc.symm
    have gg2 := of_decide_eq_true hgb.symm
    obtain ⟨⟨p1, p2⟩, hx20, hok, hsum⟩ := gg
    obtain ⟨m, rfl⟩ := Int.eq_ofNat_of_zero_le (show 0 ≤ p from by omega)
    have hbl : bal.length = m := by have := gg2.1; omega
    have hfin : setA xs m bal = settleK xs (xs.length + 1) [] bal := by unfold setA; rw [if_pos ⟨hgc.symm, hgb.symm⟩]
    obtain ⟨bb, rfl⟩ := ha2 (by omega)
    have HBL := Aside0.mk hbl
    rw [hfin]
    obtain ⟨FIN, hFIN⟩ : ∃ F, F = settleK xs (xs.length + 1) [] bal := ⟨_, rfl⟩
    rw [← hFIN]
    have HF := Aside0.mk hFIN.symm
    have HOK := Aside0.mk hok
    have HBD := Aside0.mk gg2.2
    have HX20 := Aside0.mk hx20
    have m1 : 2 ≤ m := by omega
    have m2 : m ≤ 8 := by omega
    have HG := Aside0.mk (show (goodC xs m && goodB bal m) = true from by rw [← hgc, ← hgb]; rfl)
    clear hr0 hc0 hr2 hc2 hok hx20 hfin hsum ha0 p1 p2 gg2 hFIN ha2 hgc hgb hbl
    go_enter Try.func33, Try.ntmps33
    go_wp2_with fail
    refine (areBal_c _ _ xs _ _ _ bal _ HR0.out HC0.out HR2.out (fun _ => ⟨_, rfl⟩) hn hm).mono ?_
    rw [HG.out]
    rintro e w1 ⟨rfl, hb⟩
    have HB := Aside0.mk hb
    clear hb
    go_wp2_with fail
    refine (cloneInt_c _ _ bal _ (by repeat (first | exact (Kd.C_below HR2.out HB.out) | (with_reducible refine Kd.C_alloc ?_ _) | (with_reducible refine Kd.C_drewN ?_ _) | (with_reducible refine Kd.C_drew ?_))) hm).mono ?_
    rintro e w2 ⟨v9, rfl, ho, hb⟩
    obtain ⟨g, cap, hv9, hg1, hg2, cells, hg3⟩ := Kd.R_form ho (by have := HBL.out; omega)
    rw [HBL.out] at hv9
    subst hv9
    have HO := Aside0.mk (Kd.R_lower ho (show w.heap.size ≤ _ from below_size HB.out))
    replace hg1 : w.heap.size ≤ g := Nat.le_trans (below_size HB.out) hg1
    have n_ := Aside0.mk (below_step (by repeat (first | (with_reducible first | exact HB.out | apply below_alloc | apply pw_below_drewN | apply below_drew1) | exact HB.out)) hb); clear HB; have HB := n_; clear n_ hb
    clear ho hg2 hg3 cells
    go_wp2_with (((with_reducible refine gate_dst (N := 21) rfl ?_); refine Kd.R_lit (Kd.int .i64) w.heap.size 3 (w0 := w) ?hg (N := 21) ?hd (xs := []) (inner := []) (ok := fun _ => True) (okp := fun _ => True) ?hr ?hp (fun _ hk => hk) trivial (by repeat (first | (with_reducible first | exact HB.out | apply below_alloc | apply pw_below_drewN | apply below_drew1) | exact HB.out)) (below_size (by repeat (first | (with_reducible first | exact HB.out | apply below_alloc | apply pw_below_drewN | apply below_drew1) | exact HB.out))) (by simp) ?_; (case hd => rfl); (case hg => rfl); (case hr => first | (go_simp; done) | (go_simp; rfl)); (case hp => exact (Reps.none _ _)); intro v1 w1 ho hb hgr hnw); have HO2 := Aside0.mk (R_same (by (with_reducible repeat (first | apply Kd.R_alloc | apply Kd.R_drewN | apply Kd.R_drew)); exact HO.out) hgr); have HOUT := Aside0.mk ho; clear HB; have HB := Aside0.mk hb)
    obtain ⟨bq, hq1, hq2⟩ := hnw
    have HD := Aside0.mk (show ∀ k, v1.ownBlock = some k → k ≠ g from fun k hk => by have h1 : g < _ := (R_ownlt HO.out rfl).2; rw [hq1] at hk; injection hk with hk; omega)
    clear HO ho hb hgr hq1 hq2
    have HO := HO2
    clear HO2
    go_loopg [10, 11] (xs.length + 1) (fun kq vo v11 wr => ∃ (out b : List Int) (more : Bool), v11 = .bool more ∧ Aside0 (more = true → settleK xs kq out b = FIN ∧ miss xs.length out < kq) ∧ Aside0 (more = false → (out, b, true) = FIN) ∧ Aside0 (out.length + miss xs.length out = xs.length) ∧ Aside0 (b.length = m) ∧ Aside0 (∀ x ∈ b, 0 ≤ x ∧ x ≤ 1000000000) ∧ Aside0 (∀ k, vo.ownBlock = some k → k ≠ g) ∧ Aside0 ((Kd.int .i64).R 3 wr w.heap.size (fun _ => True) (.slice (some ⟨g, 0, none⟩) m cap) b) ∧ Aside0 ((Kd.int .i64).R 3 wr w.heap.size (fun _ => True) vo out) ∧ Aside0 (Below w.heap.size w wr))
    case atStart => exact ⟨[], bal, true, rfl, ⟨fun _ => ⟨HF.out, by rw [miss_nil]; omega⟩⟩, ⟨fun h => by cases h⟩, ⟨by rw [miss_nil]; simp⟩, HBL, HBD, HD, HO, HOUT, HB⟩
    case round =>
      clear HO HOUT HB HD
      obtain ⟨out, b, more, rfl, HMT, HMF, HLM, HL, HBD1, HD, HO, HOUT, HB⟩ := hrel
      cases more with
      | false =>
        go_wp2
        go_ret3
        rw [← HMF.out (by trivial)]
        exact ⟨_, _, rfl, (by (with_reducible repeat (first | apply Kd.R_alloc | apply Kd.R_drewN | apply Kd.R_drew)); exact HOUT.out), (by (with_reducible repeat (first | apply Kd.R_alloc | apply Kd.R_drewN | apply Kd.R_drew)); exact HO.out), fun k hk e => HD.out k hk (by injection e with e; exact e.symm), (by repeat (first | (with_reducible first | exact HB.out | apply below_alloc | apply pw_below_drewN | apply below_drew1) | exact HB.out))⟩
      | true =>
        obtain ⟨hset, hms⟩ := HMT.out (by trivial)
        obtain ⟨k1, rfl⟩ : ∃ k1, gk = k1 + 1 := ⟨gk - 1, by omega⟩
        obtain ⟨PASS, hP⟩ : ∃ P, P = passS xs 0 out b false := ⟨_, rfl⟩
        obtain ⟨ms, hmse⟩ : ∃ q, q = miss xs.length out := ⟨_, rfl⟩
        rw [← hmse] at hms
        have HMS := Aside0.mk (show ms ≤ k1 from by omega)
        have HPN := Aside0.mk (show PASS = none → FIN = ([], [], false) from fun h => by rw [← hset]; exact settleK_none (hP.symm.trans h))
        have HPM := Aside0.mk (show ∀ o b, some (o, b, true) = PASS → settleK xs k1 o b = FIN from fun o b h => by rw [← hset]; exact (settleK_more (hP.symm.trans h.symm)).symm)
        have HPD := Aside0.mk (show ∀ o b, some (o, b, false) = PASS → (o, b, true) = FIN from fun o b h => by rw [← hset]; exact (settleK_done (hP.symm.trans h.symm)).symm)
        have HP0 := Aside0.mk hP.symm
        have MSLE := Nat.le_of_eq hmse.symm
        clear hset hms hP hmse HMT HMF
        go_wp2
        go_loopw [10, 11, 25] (fun vo v11 vi wr => ∃ (pre rest : List S54) (out2 b2 : List Int) (more : Bool), Aside0 (xs = pre ++ rest) ∧ vi = .int .i64 pre.length ∧ v11 = .bool more ∧ Aside0 (passS rest pre.length out2 b2 more = PASS) ∧ Aside0 (more = true → miss xs.length out2 < ms) ∧ Aside0 (miss xs.length out2 ≤ ms) ∧ Aside0 (out2.length + miss xs.length out2 = xs.length) ∧ Aside0 (b2.length = m) ∧ Aside0 (∀ x ∈ b2, 0 ≤ x ∧ x ≤ 1000000000) ∧ Aside0 (∀ k, vo.ownBlock = some k → k ≠ g) ∧ Aside0 ((Kd.int .i64).R 3 wr w.heap.size (fun _ => True) (.slice (some ⟨g, 0, none⟩) m cap) b2) ∧ Aside0 ((Kd.int .i64).R 3 wr w.heap.size (fun _ => True) vo out2) ∧ Aside0 (Below w.heap.size w wr)) (fun _ _ vi _ => xs.length - (intOf vi).toNat)
        case atStart => exact ⟨[], xs, out, b, false, ⟨rfl⟩, rfl, rfl, HP0, ⟨fun h => by cases h⟩, ⟨MSLE⟩, HLM, HL, HBD1, HD, HO, HOUT, HB⟩
        case round =>
          clear HO HOUT HB HD HBD1 HL HLM HP0
          obtain ⟨pre, rest, out2, b2, more, HX, rfl, rfl, HPS, HLT, HLE, HLM, HL, HBD2, HD, HO, HOUT, HB⟩ := hrel
          cases rest with
          | nil =>
            have c : decide (pre.length < xs.length) = false := decide_eq_false (by have := len_nil HX.out; omega)
            go_wp2
            go_roundg k1
            case rel => exact ⟨out2, b2, more, rfl, ⟨fun h => ⟨HPM.out _ _ (by rw [← h]; exact HPS.out), by have := HLT.out h; have := HMS.out; omega⟩⟩, ⟨fun h => HPD.out _ _ (by rw [← h]; exact HPS.out)⟩, HLM, HL, HBD2, HD, HO, HOUT, HB⟩
            case measure => omega
          | cons a t =>
            have hlt := len_cons HX.out
            have hpl : (pre.length : Int) < xs.length := by omega
            have ha := HOK.out a (by rw [HX.out]; simp)
            have HA := Aside0.mk ha
            have p0 := ha.1.1
            have q0 : a.f0 < (m : Int) := by have := ha.1.2; omega
            have p1 := ha.2.1.1
            have q1 : a.f1 < (m : Int) := by have := ha.2.1.2; omega
            have a2 := ha.2.2.2
            obtain ⟨ad, e0, hx0, hx1, hx2⟩ := at_T54 HR0.out (pre.length : Int) (by omega) hpl
            rw [rd_T54_at HX.out rfl] at hx0 hx1 hx2
            simp only [Int.toNat_natCast] at hx0 hx1 hx2
            cases e0
            replace hx0 := (HB.out.cell (World.block_lt_of_cell? w _ hx0)).trans hx0
            replace hx1 := (HB.out.cell (World.block_lt_of_cell? w _ hx1)).trans hx1
            replace hx2 := (HB.out.cell (World.block_lt_of_cell? w _ hx2)).trans hx2
            have c : decide (pre.length < xs.length) = true := decide_eq_true (by omega)
            have c' : pre.length < xs.length := by omega
            clear hlt
            obtain ⟨Ao, co, hvo⟩ := Kd.R_slice HOUT.out
            subst hvo
            have HSN := Aside0.mk (snoc HX.out)
            have HCO := Aside0.mk (R_cap HOUT.out)
            have hol : out2.length ≤ 20 := by have := HLM.out; have := HX20.out; omega
            have HOL := Aside0.mk hol
            go_upto_region 11 with (fail)
            clear hx0 hx1 hx2
            obtain ⟨W1, hW1⟩ : ∃ W1, W1 = wr.alloc (.cells #[.int .i64 a.f0, .int .i64 a.f1, .int .i64 a.f2] 54) := ⟨_, rfl⟩
            have HK := Aside0.mk (show W1.heap[wr.heap.size]? = some (.cells #[.int .i64 a.f0, .int .i64 a.f1, .int .i64 a.f2] 54 (0, 0)) from by rw [hW1]; exact blk_new wr _)
            have HO1 := Aside0.mk (show (Kd.int .i64).R 3 W1 w.heap.size (fun _ => True) (.slice (some ⟨g, 0, none⟩) m cap) b2 from by rw [hW1]; exact Kd.R_alloc HO.out _)
            have HOUT1 := Aside0.mk (show (Kd.int .i64).R 3 W1 w.heap.size (fun _ => True) (.slice Ao out2.length co) out2 from by rw [hW1]; exact Kd.R_alloc HOUT.out _)
            have HB1 := Aside0.mk (show Below w.heap.size w W1 from by rw [hW1]; exact below_alloc HB.out _)
            have gB : wr.heap.size ≠ g := Nat.ne_of_gt (R_ownlt HO.out rfl).2
            rw [← hW1]
            clear hW1 HO HOUT HB
            generalize wr.heap.size = B at HK gB ⊢
            have hk0 := (blk_cell HK.out 0).trans rfl
            have hk1 := (blk_cell HK.out 1).trans rfl
            have hk2 := (blk_cell HK.out 2).trans rfl
            have hy := (Kd.R_celln 0 HO1.out a.f0 p0 q0).1
            obtain ⟨VA, hVA⟩ : ∃ v, v = rd b2 a.f0 := ⟨_, rfl⟩
            rw [show rdOf 0 b2 a.f0 = VA from hVA.symm] at hy
            have bVA : 0 ≤ VA ∧ VA ≤ 1000000000 := by rw [hVA]; exact HBD2.out _ (rd_mem (l := b2) (i := a.f0) p0 (by have := HL.out; omega))
            have HVA := Aside0.mk hVA
            clear hVA
            by_cases c1 : (pre.length : Int) ∈ out2
            · obtain ⟨kh, hh⟩ := roundsOf (contains_ev out2 (pre.length : Int) (by omega))
              rw [decide_eq_true c1] at hh
              have HH := Aside0.mk hh
              have HPS1 := Aside0.mk ((passS_skip (.inl c1)).symm.trans HPS.out)
              clear hh c1
              go_quiet ((go_at_call 65; exact Calls.quiet_of ((slices_Contains_int_int.calls kh _ _ out2 _ _ _ (by repeat (first | exact (R_C HOUT1.out) | (with_reducible refine Kd.C_alloc ?_ _) | (with_reducible refine Kd.C_drewN ?_ _) | (with_reducible refine Kd.C_drew ?_))) HCO.out HH.out).mono fun e w' ⟨he, ⟨n, hw⟩⟩ => ⟨he, n, hw⟩)))
              go_wp2
              go_roundw
              case rel => exact ⟨pre ++ [a], t, out2, b2, more, HSN, by rw [len_snoc], rfl, ⟨by rw [len_snoc]; exact HPS1.out⟩, HLT, HLE, HLM, HL, HBD2, HD, ⟨(by (with_reducible repeat (first | apply Kd.R_alloc | apply Kd.R_drewN | apply Kd.R_drew)); exact HO1.out)⟩, ⟨(by (with_reducible repeat (first | apply Kd.R_alloc | apply Kd.R_drewN | apply Kd.R_drew)); exact HOUT1.out)⟩, ⟨(by repeat (first | (with_reducible first | exact HB1.out | apply below_alloc | apply pw_below_drewN | apply below_drew1) | exact HB1.out))⟩⟩
              case measure => simp [intOf]; omega
            · obtain ⟨kh, hh⟩ := roundsOf (contains_ev out2 (pre.length : Int) (by omega))
              rw [decide_eq_false c1] at hh
              have HH := Aside0.mk hh
              have HC1 := Aside0.mk c1
              clear hh c1
              by_cases c2 : VA < a.f2
              · have c2b : decide (VA < a.f2) = true := decide_eq_true c2
                have HPS1 := Aside0.mk ((passS_skip (.inr (by rw [← HVA.out]; exact c2))).symm.trans HPS.out)
                clear c2
                go_quiet ((go_at_call 65; exact Calls.quiet_of ((slices_Contains_int_int.calls kh _ _ out2 _ _ _ (by repeat (first | exact (R_C HOUT1.out) | (with_reducible refine Kd.C_alloc ?_ _) | (with_reducible refine Kd.C_drewN ?_ _) | (with_reducible refine Kd.C_drew ?_))) HCO.out HH.out).mono fun e w' ⟨he, ⟨n, hw⟩⟩ => ⟨he, n, hw⟩)))
                go_wp2
                go_roundw
                case rel => exact ⟨pre ++ [a], t, out2, b2, more, HSN, by rw [len_snoc], rfl, ⟨by rw [len_snoc]; exact HPS1.out⟩, HLT, HLE, HLM, HL, HBD2, HD, ⟨(by (with_reducible repeat (first | apply Kd.R_alloc | apply Kd.R_drewN | apply Kd.R_drew)); exact HO1.out)⟩, ⟨(by (with_reducible repeat (first | apply Kd.R_alloc | apply Kd.R_drewN | apply Kd.R_drew)); exact HOUT1.out)⟩, ⟨(by repeat (first | (with_reducible first | exact HB1.out | apply below_alloc | apply pw_below_drewN | apply below_drew1) | exact HB1.out))⟩⟩
                case measure => simp [intOf]; omega
              · have c2b : decide (VA < a.f2) = false := decide_eq_false c2
                have HC2N := Aside0.mk (show ¬ rd b2 a.f0 < a.f2 from by rw [← HVA.out]; exact c2)
                clear c2
                go_quiet ((go_at_call 65; exact Calls.quiet_of ((slices_Contains_int_int.calls kh _ _ out2 _ _ _ (by repeat (first | exact (R_C HOUT1.out) | (with_reducible refine Kd.C_alloc ?_ _) | (with_reducible refine Kd.C_drewN ?_ _) | (with_reducible refine Kd.C_drew ?_))) HCO.out HH.out).mono fun e w' ⟨he, ⟨n, hw⟩⟩ => ⟨he, n, hw⟩)))
                clear hy hk0 hk1 hk2
                have HO2 := Aside0.mk (show (Kd.int .i64).R 3 (W1.drewN nq) w.heap.size (fun _ => True) (.slice (some ⟨g, 0, none⟩) m cap) b2 from Kd.R_drewN HO1.out _)
                have HOUT2 := Aside0.mk (show (Kd.int .i64).R 3 (W1.drewN nq) w.heap.size (fun _ => True) (.slice Ao out2.length co) out2 from Kd.R_drewN HOUT1.out _)
                have HB2 := Aside0.mk (show Below w.heap.size w (W1.drewN nq) from pw_below_drewN HB1.out _)
                have HK2 := Aside0.mk (show (W1.drewN nq).heap[B]? = some (.cells #[.int .i64 a.f0, .int .i64 a.f1, .int .i64 a.f2] 54 (0, 0)) from HK.out)
                generalize W1.drewN nq = W2 at HO2 HOUT2 HB2 HK2 ⊢
                clear HK HO1 HOUT1 HB1
                obtain ⟨ps1, ps2, ps3, _, bVB⟩ := rd_posStep1 HA.out HL.out HBD2.out HC2N.out
                obtain ⟨VB, hVB⟩ : ∃ v, v = rd b2 a.f1 := ⟨_, rfl⟩
                rw [← hVB] at ps1 ps2 ps3 bVB
                rw [← HVA.out] at ps1 ps2
                have HP1 := Aside0.mk ps1
                have HP2 := Aside0.mk ps2
                have HP3 := Aside0.mk ps3
                clear hVB ps1 ps2 ps3
                have hk0 := (blk_cell HK2.out 0).trans rfl
                have hk2 := (blk_cell HK2.out 2).trans rfl
                have hy := Kd.R_celln 0 HO2.out a.f0 p0 q0
                rw [show rdOf 0 b2 a.f0 = VA from HVA.out.symm] at hy
                obtain ⟨hy, hf⟩ := hy
                go_upto_region 12 with (fail)
                go_region
                clear hk0 hk2 hy hf
                go_upto_region 13 with (fail)
                have HO3 := Aside0.mk (Kd.R_drew (Kd.R_putn HO2.out a.f0 (VA - a.f2)))
                have HOUT3 := Aside0.mk (Kd.R_drew (R_offset HOUT2.out HD.out a.f0.toNat (.int .i64 (VA - a.f2))))
                have HB3 := Aside0.mk (below_drew (below_set (j := a.f0.toNat) (v := .int .i64 (VA - a.f2)) HB2.out hg1))
                have HK3 := Aside0.mk (blk_drew (blk_far HK2.out (p := ⟨g, a.f0.toNat, none⟩) gB (.int .i64 (VA - a.f2))))
                generalize (W2.setCell ⟨g, a.f0.toNat, none⟩ (.int .i64 (VA - a.f2))).drew = W3 at HO3 HOUT3 HB3 HK3 ⊢
                clear HK2 HO2 HOUT2 HB2
                have hk1 := (blk_cell HK3.out 1).trans rfl
                have hk2 := (blk_cell HK3.out 2).trans rfl
                have hy := Kd.R_celln 0 HO3.out a.f1 p1 q1
                rw [show rdOf 0 (b2.set a.f0.toNat (VA - a.f2)) a.f1 = VB from HP2.out] at hy
                obtain ⟨hy, hf⟩ := hy
                go_region
                clear hk1 hk2 hy hf
                go_upto_region 14 with (fail)
                have HO4 := Aside0.mk (Kd.R_drew (Kd.R_putn HO3.out a.f1 (VB + a.f2)))
                have HOUT4 := Aside0.mk (Kd.R_drew (R_offset HOUT3.out HD.out a.f1.toNat (.int .i64 (VB + a.f2))))
                have HB4 := Aside0.mk (below_drew (below_set (j := a.f1.toNat) (v := .int .i64 (VB + a.f2)) HB3.out hg1))
                have HK4 := Aside0.mk (blk_drew (blk_far HK3.out (p := ⟨g, a.f1.toNat, none⟩) gB (.int .i64 (VB + a.f2))))
                generalize (W3.setCell ⟨g, a.f1.toNat, none⟩ (.int .i64 (VB + a.f2))).drew = W4 at HO4 HOUT4 HB4 HK4 ⊢
                clear HK3 HO3 HOUT3 HB3
                rw [← HP1.out] at HO4
                have hk1 := (blk_cell HK4.out 1).trans rfl
                have hy := (Kd.R_celln 0 HO4.out a.f1 p1 q1).1
                rw [show rdOf 0 (posStep b2 a) a.f1 = VB + a.f2 from HP3.out] at hy
                by_cases c3 : 1000000000 < VB + a.f2
                · have c3b : decide (1000000000 < VB + a.f2) = true := decide_eq_true c3
                  have hend := passS_over (t := t) (more := more) HC1.out HC2N.out (by rw [HP3.out]; exact c3)
                  have HEND := Aside0.mk (HPN.out (HPS.out.symm.trans hend))
                  clear c3 hend
                  go_wp2
                  go_ret3
                  rw [HEND.out]
                  exact ⟨_, _, rfl, Kd.R_nil _ _ _ _ _, Kd.R_nil _ _ _ _ _, (fun k hk => by cases hk), (by repeat (first | (with_reducible first | exact HB4.out | apply below_alloc | apply pw_below_drewN | apply below_drew1) | exact HB4.out))⟩
                · have c3b : decide (1000000000 < VB + a.f2) = false := decide_eq_false c3
                  have htk := passS_take (t := t) (more := more) HC1.out HC2N.out (by rw [HP3.out]; exact c3)
                  have HPS1 := Aside0.mk (htk.symm.trans HPS.out)
                  have hok1 := posStep_ok HA.out HL.out HBD2.out HC2N.out (by rw [HP3.out]; exact c3)
                  have HBD3 := Aside0.mk hok1
                  have hms := miss_add (l := out2) (i := pre.length) HC1.out xs.length c'
                  have HMI := Aside0.mk hms
                  clear c3 htk hok1 hms
                  go_upto_region 16 with (fail)
                  clear hy hk1
                  go_upto_region 17 with ((with_reducible refine gate_builtin (b := .append) (xs := #[.tmp 67, .tmp 69]) rfl ?_); at_builtin; refine Kd.R_append (Kd.int .i64) (w0 := w) w.heap.size rfl (.tmp 67) (.tmp 69) 31 3 (.int .i64 0) 8 rfl Try.underlying31 infoI rfl (by decide) (by omega) (.slice Ao out2.length co) out2 (pre.length : Int) [.int .i64 pre.length] (fun _ => True) (fun _ => False) rfl rfl ?aP (fun _ hk => hk.elim) ?aF ?aO ?aB ?aS ?aL ?_; (case aP => exact rfl); (case aB => exact (by repeat (first | (with_reducible first | exact HB4.out | apply below_alloc | apply pw_below_drewN | apply below_drew1) | exact HB4.out))); (case aF => exact (fun _ _ => trivial)); (case aO => exact (by (with_reducible repeat (first | apply Kd.R_alloc | apply Kd.R_drewN | apply Kd.R_drew)); exact HOUT4.out)); (case aS => exact (below_size (by repeat (first | (with_reducible first | exact HB4.out | apply below_alloc | apply pw_below_drewN | apply below_drew1) | exact HB4.out)))); (case aL => omega); intro v1 w1 ho hb hg hat)
                  have HO5 := Aside0.mk (R_offrow (by (with_reducible repeat (first | apply Kd.R_alloc | apply Kd.R_drewN | apply Kd.R_drew)); exact HO4.out) hg (fun k hk e => HD.out k e (by injection hk with hk; exact hk.symm)))
                  have HOUT5 := Aside0.mk ho
                  have HB5 := Aside0.mk hb
                  have HD5 := Aside0.mk (off_app HD.out (R_ownlt HO4.out rfl).2 hat)
                  clear ho hb hg hat HO4 HOUT4 HB4 HK4 HD
                  go_wp2
                  go_roundw
                  case rel => exact ⟨pre ++ [a], t, out2 ++ [(pre.length : Int)], posStep b2 a, true, HSN, by rw [len_snoc], rfl, ⟨by rw [len_snoc]; exact HPS1.out⟩, ⟨fun _ => by have := HMI.out; have := HLE.out; omega⟩, ⟨by have := HMI.out; have := HLE.out; omega⟩, ⟨by rw [List.length_append, List.length_singleton]; have := HMI.out; have := HLM.out; omega⟩, ⟨by rw [posStep_length]; exact HL.out⟩, HBD3, HD5, ⟨(by (with_reducible repeat (first | apply Kd.R_alloc | apply Kd.R_drewN | apply Kd.R_drew)); exact HO5.out)⟩, ⟨(by (with_reducible repeat (first | apply Kd.R_alloc | apply Kd.R_drewN | apply Kd.R_drew)); exact HOUT5.out)⟩, ⟨(by repeat (first | (with_reducible first | exact HB5.out | apply below_alloc | apply pw_below_drewN | apply below_drew1) | exact HB5.out))⟩⟩
                  case measure => simp [intOf]; omega
  · have hfin : setA xs p bal = ([], [], false) := by unfold setA; rw [if_neg (by rw [← hgc, ← hgb]; exact g)]
    rw [hfin]
    have HG := Aside0.mk (show (goodC xs p && goodB bal p) = false from by rw [← hgc, ← hgb]; cases gc <;> cases gb <;> first | rfl | exact absurd ⟨rfl, rfl⟩ g)
    have HA2 := Aside0.mk ha2
    clear hfin ha0 ha2 hgc hgb g hr0 hc0 hr2 hc2
    go_enter Try.func33, Try.ntmps33
    go_wp2_with fail
    refine (areBal_c _ _ xs _ _ _ bal _ HR0.out HC0.out HR2.out HA2.out hn hm).mono ?_
    rw [HG.out]
    rintro e w1 ⟨rfl, hb⟩
    have HB := Aside0.mk hb
    clear hb
    go_wp2
    go_ret3
    exact ⟨_, _, rfl, Kd.R_nil _ _ _ _ _, Kd.R_nil _ _ _ _ _, (fun k hk => by cases hk), (by repeat (first | (with_reducible first | exact HB.out | apply below_alloc | apply pw_below_drewN | apply below_drew1) | exact HB.out))⟩
theorem flat_Claim (w : World) (b : Nat) (p q : Nat → Prop) (x : S54) (cs : List Value) (h : k54.M w b p x cs) : k54.M w b q x cs := by
  obtain rfl := k54_openM h
  exact k54_mkM w b q x

set_option maxHeartbeats 16000000 in
set_option maxRecDepth 100000 in
theorem law_c (A0 : Option Addr) (c0 : Nat) (l0 : List S56) (a1 : Int) (A2 : Option Addr) (c2 : Nat) (l2 : List Int) (w : World) (hr0 : Kd.C k56 w A0 l0.length l0) (hc0 : l0.length ≤ c0) (hr2 : Kd.C (Kd.int .i64) w A2 l2.length l2) (hc2 : l2.length ≤ c2) (hi1 : -9223372036854775808 ≤ a1 ∧ a1 ≤ 9223372036854775807) (he0 : ∀ y ∈ l0, (KReads.InI y.f0 ∧ KReads.InI y.f1 ∧ KReads.InI y.f2)) (he2 : ∀ y ∈ l2, KReads.InI y) :
    Calls Try.prog 8 #[.slice A0 l0.length c0, .int .i64 a1, .slice A2 l2.length c2] w fun e w' => e = .returned (.bool true) ∧ Below w.heap.size w w' := by
  have HR0 := Aside0.mk hr0
  have HC0 := Aside0.mk hc0
  have HM0 := Aside0.mk (Kd.C_max hr0)
  have HR2 := Aside0.mk hr2
  have HC2 := Aside0.mk hc2
  have HM2 := Aside0.mk (Kd.C_max hr2)
  clear hr0 hc0 hr2 hc2
  by_cases hn2 : l2.length ≤ 1048576
  rotate_left
  · have hn_ := hn2
    have cl2 : decide (1048576 < l2.length) = true := decide_eq_true (by omega)
    clear hn_
    go_enter Try.func8, Try.ntmps8
    go_wp2_with fail
    go_ret
    exact ⟨rfl, (by repeat (first | (with_reducible first | exact Below.refl _ _ | apply below_alloc | apply pw_below_drewN | apply below_drew1) | exact Below.refl _ _))⟩
  by_cases hn0 : l0.length ≤ 1048576
  rotate_left
  · have hn_ := hn0
    have cl2 : decide (1048576 < l2.length) = false := decide_eq_false (by omega)
    have E0 := Aside0.mk ((szClaimS_eq l0 HM0.out).trans (congrArg some (if_neg hn0)))
    clear hn_
    go_enter Try.func8, Try.ntmps8
    go_wp2_with (go_at_call 13; refine (laws_szClaimS.calls _ _ l0 1048576 _ _ (by repeat (first | exact HR0.out | (with_reducible refine Kd.C_alloc ?_ _) | (with_reducible refine Kd.C_drewN ?_ _) | (with_reducible refine Kd.C_drew ?_))) HC0.out E0.out).mono ?_; rintro e w0_ ⟨rfl, ⟨q, rfl⟩⟩)
    go_ret
    exact ⟨rfl, (by repeat (first | (with_reducible first | exact Below.refl _ _ | apply below_alloc | apply pw_below_drewN | apply below_drew1) | exact Below.refl _ _))⟩
  have cl2 : decide (1048576 < l2.length) = false := decide_eq_false (by omega)
  have E0 := Aside0.mk ((szClaimS_eq l0 HM0.out).trans (congrArg some (if_pos hn0)))
  have cs0 : decide (1048576 - (l0.length : Int) < 0) = false := decide_eq_false (by omega)
  obtain ⟨L0, eL0⟩ : ∃ L_ : List S54, L_ = l0.map cv_Claim := ⟨_, rfl⟩
  have hv0 : L0.length ≤ 1048576 := by rw [eL0]; simpa using hn0
  have EL0 := Aside0.mk eL0
  clear eL0
  have hv2 := hn2
  have HL0 := Aside0.mk (show ((setA L0 a1 l2).1).length ≤ 1048576 from by have h_ := setA_len L0 a1 l2; omega)
  have HL1 := Aside0.mk (show ((setA L0 a1 l2).2.1).length ≤ 1048576 from by have h_ := setA_len L0 a1 l2; omega)
  have HB0 := Aside0.mk (Below.refl w.heap.size w)
  obtain ⟨kX0, hX0⟩ := roundsOf (toClaimS_ev l0 hn0)
  rw [← EL0.out] at hX0
  have X0 := Aside0.mk hX0
  clear hX0
  obtain ⟨kX1, hX1⟩ := roundsOf (toIntS_ev l2 hn2)
  have X1 := Aside0.mk hX1
  clear hX1
  obtain ⟨kX2, hX2⟩ := roundsOf (eqIntS_ev (setA L0 a1 l2).1 (by have h_ := HL0.out; omega))
  have X2 := Aside0.mk hX2
  clear hX2
  obtain ⟨kX3, hX3⟩ := roundsOf (eqIntS_ev (setA L0 a1 l2).2.1 (by have h_ := HL1.out; omega))
  have X3 := Aside0.mk hX3
  clear hX3
  obtain ⟨kX4, hX4⟩ := roundsOf (eqClaimS_ev L0 (by have h_ := hv0; omega))
  have X4 := Aside0.mk hX4
  clear hX4
  obtain ⟨kX5, hX5⟩ := roundsOf (eqIntS_ev l2 (by have h_ := hv2; omega))
  have X5 := Aside0.mk hX5
  clear hX5
  obtain ⟨kX6, hX6⟩ := roundsOf (markClaimS_ev L0 1 (by omega) (by have h_ := hv0; omega) (by have h_ := hv0; omega))
  obtain ⟨mX6, eX6⟩ : ∃ m_ : Int, m_ = 1 + 3 * ((L0).length : Int) := ⟨_, rfl⟩
  rw [← eX6] at hX6
  obtain ⟨UX6, uX6⟩ : ∃ U_ : List S54, U_ = upS_Claim (L0).length 1 := ⟨_, rfl⟩
  rw [← uX6] at hX6
  have VX6 := Aside0.mk (show UX6.length = (L0).length from by rw [uX6, upS_Claim_length])
  have ZX6 := Aside0.mk uX6
  clear uX6
  have cX6 : decide (mX6 < 0) = false := decide_eq_false (by omega)
  have PX6 := Aside0.mk (show 0 ≤ mX6 ∧ mX6 ≤ 1 + 8388608 from by have h_ := hv0; omega)
  have MX6 := Aside0.mk eX6
  clear eX6
  have X6 := Aside0.mk hX6
  clear hX6
  obtain ⟨kX7, hX7⟩ := roundsOf (markIntS_ev l2 mX6 (by have p_ := PX6.out; omega) (by have p_ := PX6.out; have h_ := hv2; omega) (by have h_ := hv2; omega))
  obtain ⟨mX7, eX7⟩ : ∃ m_ : Int, m_ = mX6 + ((l2).length : Int) := ⟨_, rfl⟩
  rw [← eX7] at hX7
  obtain ⟨UX7, uX7⟩ : ∃ U_ : List Int, U_ = upFrom (l2).length mX6 := ⟨_, rfl⟩
  rw [← uX7] at hX7
  have VX7 := Aside0.mk (show UX7.length = (l2).length from by rw [uX7, upFrom_length])
  have ZX7 := Aside0.mk uX7
  clear uX7
  have cX7 : decide (mX7 < 0) = false := decide_eq_false (by have p_ := PX6.out; omega)
  have PX7 := Aside0.mk (show 0 ≤ mX7 ∧ mX7 ≤ mX6 + 8388608 from by have p_ := PX6.out; have h_ := hv2; omega)
  have MX7 := Aside0.mk eX7
  clear eX7
  have X7 := Aside0.mk hX7
  clear hX7
  obtain ⟨kX8, hX8⟩ := roundsOf (markIntS_ev (setA L0 a1 l2).1 1 (by omega) (by have h_ := HL0.out; omega) (by have h_ := HL0.out; omega))
  obtain ⟨mX8, eX8⟩ : ∃ m_ : Int, m_ = 1 + (((setA L0 a1 l2).1).length : Int) := ⟨_, rfl⟩
  rw [← eX8] at hX8
  obtain ⟨UX8, uX8⟩ : ∃ U_ : List Int, U_ = upFrom ((setA L0 a1 l2).1).length 1 := ⟨_, rfl⟩
  rw [← uX8] at hX8
  have VX8 := Aside0.mk (show UX8.length = ((setA L0 a1 l2).1).length from by rw [uX8, upFrom_length])
  have ZX8 := Aside0.mk uX8
  clear uX8
  have cX8 : decide (mX8 < 0) = false := decide_eq_false (by omega)
  have PX8 := Aside0.mk (show 0 ≤ mX8 ∧ mX8 ≤ 1 + 8388608 from by have h_ := HL0.out; omega)
  have MX8 := Aside0.mk eX8
  clear eX8
  have X8 := Aside0.mk hX8
  clear hX8
  obtain ⟨kX9, hX9⟩ := roundsOf (markIntS_ev (setA L0 a1 l2).2.1 mX8 (by have p_ := PX8.out; omega) (by have p_ := PX8.out; have h_ := HL1.out; omega) (by have h_ := HL1.out; omega))
  obtain ⟨mX9, eX9⟩ : ∃ m_ : Int, m_ = mX8 + (((setA L0 a1 l2).2.1).length : Int) := ⟨_, rfl⟩
  rw [← eX9] at hX9
  obtain ⟨UX9, uX9⟩ : ∃ U_ : List Int, U_ = upFrom ((setA L0 a1 l2).2.1).length mX8 := ⟨_, rfl⟩
  rw [← uX9] at hX9
  have VX9 := Aside0.mk (show UX9.length = ((setA L0 a1 l2).2.1).length from by rw [uX9, upFrom_length])
  have ZX9 := Aside0.mk uX9
  clear uX9
  have cX9 : decide (mX9 < 0) = false := decide_eq_false (by have p_ := PX8.out; omega)
  have PX9 := Aside0.mk (show 0 ≤ mX9 ∧ mX9 ≤ mX8 + 8388608 from by have p_ := PX8.out; have h_ := HL1.out; omega)
  have MX9 := Aside0.mk eX9
  clear eX9
  have X9 := Aside0.mk hX9
  clear hX9
  obtain ⟨kX10, hX10⟩ := roundsOf (heldIntS_ev ((setA L0 a1 l2).1).length 1 (by omega) (by have h_ := HL0.out; omega) (by have h_ := HL0.out; omega))
  rw [← MX8.out, ← ZX8.out] at hX10
  have X10 := Aside0.mk hX10
  clear hX10
  obtain ⟨kX11, hX11⟩ := roundsOf (heldIntS_ev ((setA L0 a1 l2).2.1).length mX8 (by have p_ := PX8.out; omega) (by have p_ := PX8.out; have h_ := HL1.out; omega) (by have h_ := HL1.out; omega))
  rw [← MX9.out, ← ZX9.out] at hX11
  have X11 := Aside0.mk hX11
  clear hX11
  go_enter Try.func8, Try.ntmps8
  go_wp2_with (go_at_call 13; refine (laws_szClaimS.calls _ _ l0 1048576 _ _ (by repeat (first | exact HR0.out | (with_reducible refine Kd.C_alloc ?_ _) | (with_reducible refine Kd.C_drewN ?_ _) | (with_reducible refine Kd.C_drew ?_))) HC0.out E0.out).mono ?_; rintro e w0_ ⟨rfl, ⟨q, rfl⟩⟩)
  refine (laws_toClaimS.calls kX0 _ _ l0 _ _ (by repeat (first | exact (Kd.C_below HR0.out HB0.out) | (with_reducible refine Kd.C_alloc ?_ _) | (with_reducible refine Kd.C_drewN ?_ _) | (with_reducible refine Kd.C_drew ?_))) HC0.out X0.out).mono ?_
  rintro e w1 ⟨v, rfl, ho, hb⟩
  have HB1 := Aside0.mk (below_step (by repeat (first | (with_reducible first | exact HB0.out | apply below_alloc | apply pw_below_drewN | apply below_drew1) | exact HB0.out)) hb)
  have SZ1 := Aside0.mk (show w.heap.size ≤ w1.heap.size from below_size (below_step (by repeat (first | (with_reducible first | exact Below.refl _ _ | apply below_alloc | apply pw_below_drewN | apply below_drew1) | exact Below.refl _ _)) hb))
  have HOt1 := Aside0.mk (R_ivw (a := w.heap.size) (b := w.heap.size) ho (below_size (by repeat (first | (with_reducible first | exact Below.refl _ _ | apply below_alloc | apply pw_below_drewN | apply below_drew1) | exact Below.refl _ _))) (below_size (by repeat (first | (with_reducible first | exact HB0.out | apply below_alloc | apply pw_below_drewN | apply below_drew1) | exact HB0.out))))
  obtain ⟨Art1, crt1, ert1⟩ := Kd.R_slice HOt1.out
  subst ert1
  clear ho hb
  go_wp2_with fail
  refine (laws_toIntS.calls kX1 _ _ l2 _ _ (by repeat (first | exact (Kd.C_below HR2.out HB1.out) | (with_reducible refine Kd.C_alloc ?_ _) | (with_reducible refine Kd.C_drewN ?_ _) | (with_reducible refine Kd.C_drew ?_))) HC2.out X1.out).mono ?_
  rintro e w2 ⟨v, rfl, ho, hb⟩
  have n_ := Aside0.mk (Kd.R_below (by (with_reducible repeat (first | apply Kd.R_alloc | apply Kd.R_drewN | apply Kd.R_drew)); exact HOt1.out) hb); clear HOt1; have HOt1 := n_; clear n_
  have HB2 := Aside0.mk (below_step (by repeat (first | (with_reducible first | exact HB1.out | apply below_alloc | apply pw_below_drewN | apply below_drew1) | exact HB1.out)) hb)
  have SZ2 := Aside0.mk (show w1.heap.size ≤ w2.heap.size from below_size (below_step (by repeat (first | (with_reducible first | exact Below.refl _ _ | apply below_alloc | apply pw_below_drewN | apply below_drew1) | exact Below.refl _ _)) hb))
  have HOt2 := Aside0.mk (R_ivw (a := w1.heap.size) (b := w.heap.size) ho (below_size (by repeat (first | (with_reducible first | exact Below.refl _ _ | apply below_alloc | apply pw_below_drewN | apply below_drew1) | exact Below.refl _ _))) (below_size (by repeat (first | (with_reducible first | exact HB1.out | apply below_alloc | apply pw_below_drewN | apply below_drew1) | exact HB1.out))))
  obtain ⟨Art2, crt2, ert2⟩ := Kd.R_slice HOt2.out
  subst ert2
  clear ho hb
  go_wp2_with fail
  refine (spec_c _ _ L0 a1 _ _ l2 _ (by repeat (first | exact (Kd.R_reads' HOt1.out).2.2 | (with_reducible refine Kd.C_alloc ?_ _) | (with_reducible refine Kd.C_drewN ?_ _) | (with_reducible refine Kd.C_drew ?_))) (Kd.R_reads' HOt1.out).2.1 (fun hp => R_head HOt1.out hp) hv0 (by repeat (first | exact (Kd.R_reads' HOt2.out).2.2 | (with_reducible refine Kd.C_alloc ?_ _) | (with_reducible refine Kd.C_drewN ?_ _) | (with_reducible refine Kd.C_drew ?_))) (Kd.R_reads' HOt2.out).2.1 (fun hp => R_head HOt2.out hp) hv2 ).mono ?_
  rintro e w3 ⟨v1, v2, rfl, ho1, ho2, hs, hb⟩
  have n_ := Aside0.mk (Kd.R_below (by (with_reducible repeat (first | apply Kd.R_alloc | apply Kd.R_drewN | apply Kd.R_drew)); exact HOt1.out) hb); clear HOt1; have HOt1 := n_; clear n_
  have n_ := Aside0.mk (Kd.R_below (by (with_reducible repeat (first | apply Kd.R_alloc | apply Kd.R_drewN | apply Kd.R_drew)); exact HOt2.out) hb); clear HOt2; have HOt2 := n_; clear n_
  have HB3 := Aside0.mk (below_step (by repeat (first | (with_reducible first | exact HB2.out | apply below_alloc | apply pw_below_drewN | apply below_drew1) | exact HB2.out)) hb)
  have SZ3 := Aside0.mk (show w2.heap.size ≤ w3.heap.size from below_size (below_step (by repeat (first | (with_reducible first | exact Below.refl _ _ | apply below_alloc | apply pw_below_drewN | apply below_drew1) | exact Below.refl _ _)) hb))
  have HOw0 := Aside0.mk (R_ivp (a := w2.heap.size) (b := w.heap.size) ho1 (below_size (by repeat (first | (with_reducible first | exact Below.refl _ _ | apply below_alloc | apply pw_below_drewN | apply below_drew1) | exact Below.refl _ _))) (below_size (by repeat (first | (with_reducible first | exact HB2.out | apply below_alloc | apply pw_below_drewN | apply below_drew1) | exact HB2.out))))
  obtain ⟨Arw0, crw0, erw0⟩ := Kd.R_slice HOw0.out
  subst erw0
  have HOw1 := Aside0.mk (R_ivp (a := w2.heap.size) (b := w.heap.size) ho2 (below_size (by repeat (first | (with_reducible first | exact Below.refl _ _ | apply below_alloc | apply pw_below_drewN | apply below_drew1) | exact Below.refl _ _))) (below_size (by repeat (first | (with_reducible first | exact HB2.out | apply below_alloc | apply pw_below_drewN | apply below_drew1) | exact HB2.out))))
  obtain ⟨Arw1, crw1, erw1⟩ := Kd.R_slice HOw1.out
  subst erw1
  have HS3 := Aside0.mk hs
  clear ho1 ho2 hs hb
  go_wp2_with fail
  refine (laws_toClaimS.calls kX0 _ _ l0 _ _ (by repeat (first | exact (Kd.C_below HR0.out HB3.out) | (with_reducible refine Kd.C_alloc ?_ _) | (with_reducible refine Kd.C_drewN ?_ _) | (with_reducible refine Kd.C_drew ?_))) HC0.out X0.out).mono ?_
  rintro e w4 ⟨v, rfl, ho, hb⟩
  have n_ := Aside0.mk (Kd.R_below (by (with_reducible repeat (first | apply Kd.R_alloc | apply Kd.R_drewN | apply Kd.R_drew)); exact HOw0.out) hb); clear HOw0; have HOw0 := n_; clear n_
  have n_ := Aside0.mk (Kd.R_below (by (with_reducible repeat (first | apply Kd.R_alloc | apply Kd.R_drewN | apply Kd.R_drew)); exact HOw1.out) hb); clear HOw1; have HOw1 := n_; clear n_
  have HB4 := Aside0.mk (below_step (by repeat (first | (with_reducible first | exact HB3.out | apply below_alloc | apply pw_below_drewN | apply below_drew1) | exact HB3.out)) hb)
  have SZ4 := Aside0.mk (show w3.heap.size ≤ w4.heap.size from below_size (below_step (by repeat (first | (with_reducible first | exact Below.refl _ _ | apply below_alloc | apply pw_below_drewN | apply below_drew1) | exact Below.refl _ _)) hb))
  have HOx0 := Aside0.mk (R_ivw (a := w3.heap.size) (b := w.heap.size) ho (below_size (by repeat (first | (with_reducible first | exact Below.refl _ _ | apply below_alloc | apply pw_below_drewN | apply below_drew1) | exact Below.refl _ _))) (below_size (by repeat (first | (with_reducible first | exact HB3.out | apply below_alloc | apply pw_below_drewN | apply below_drew1) | exact HB3.out))))
  obtain ⟨Arx0, crx0, erx0⟩ := Kd.R_slice HOx0.out
  subst erx0
  clear ho hb
  go_wp2_with fail
  refine (laws_toIntS.calls kX1 _ _ l2 _ _ (by repeat (first | exact (Kd.C_below HR2.out HB4.out) | (with_reducible refine Kd.C_alloc ?_ _) | (with_reducible refine Kd.C_drewN ?_ _) | (with_reducible refine Kd.C_drew ?_))) HC2.out X1.out).mono ?_
  rintro e w5 ⟨v, rfl, ho, hb⟩
  have n_ := Aside0.mk (Kd.R_below (by (with_reducible repeat (first | apply Kd.R_alloc | apply Kd.R_drewN | apply Kd.R_drew)); exact HOw0.out) hb); clear HOw0; have HOw0 := n_; clear n_
  have n_ := Aside0.mk (Kd.R_below (by (with_reducible repeat (first | apply Kd.R_alloc | apply Kd.R_drewN | apply Kd.R_drew)); exact HOw1.out) hb); clear HOw1; have HOw1 := n_; clear n_
  have n_ := Aside0.mk (Kd.R_below (by (with_reducible repeat (first | apply Kd.R_alloc | apply Kd.R_drewN | apply Kd.R_drew)); exact HOx0.out) hb); clear HOx0; have HOx0 := n_; clear n_
  have HB5 := Aside0.mk (below_step (by repeat (first | (with_reducible first | exact HB4.out | apply below_alloc | apply pw_below_drewN | apply below_drew1) | exact HB4.out)) hb)
  have SZ5 := Aside0.mk (show w4.heap.size ≤ w5.heap.size from below_size (below_step (by repeat (first | (with_reducible first | exact Below.refl _ _ | apply below_alloc | apply pw_below_drewN | apply below_drew1) | exact Below.refl _ _)) hb))
  have HOx2 := Aside0.mk (R_ivw (a := w4.heap.size) (b := w.heap.size) ho (below_size (by repeat (first | (with_reducible first | exact Below.refl _ _ | apply below_alloc | apply pw_below_drewN | apply below_drew1) | exact Below.refl _ _))) (below_size (by repeat (first | (with_reducible first | exact HB4.out | apply below_alloc | apply pw_below_drewN | apply below_drew1) | exact HB4.out))))
  obtain ⟨Arx2, crx2, erx2⟩ := Kd.R_slice HOx2.out
  subst erx2
  clear ho hb
  go_wp2_with fail
  refine (impl_c _ _ L0 a1 _ _ l2 _ (by repeat (first | exact (Kd.R_reads' HOx0.out).2.2 | (with_reducible refine Kd.C_alloc ?_ _) | (with_reducible refine Kd.C_drewN ?_ _) | (with_reducible refine Kd.C_drew ?_))) (Kd.R_reads' HOx0.out).2.1 (fun hp => R_head HOx0.out hp) hv0 (by repeat (first | exact (Kd.R_reads' HOx2.out).2.2 | (with_reducible refine Kd.C_alloc ?_ _) | (with_reducible refine Kd.C_drewN ?_ _) | (with_reducible refine Kd.C_drew ?_))) (Kd.R_reads' HOx2.out).2.1 (fun hp => R_head HOx2.out hp) hv2 ).mono ?_
  rintro e w6 ⟨v1, v2, rfl, ho1, ho2, hs, hb⟩
  have n_ := Aside0.mk (Kd.R_below (by (with_reducible repeat (first | apply Kd.R_alloc | apply Kd.R_drewN | apply Kd.R_drew)); exact HOw0.out) hb); clear HOw0; have HOw0 := n_; clear n_
  have n_ := Aside0.mk (Kd.R_below (by (with_reducible repeat (first | apply Kd.R_alloc | apply Kd.R_drewN | apply Kd.R_drew)); exact HOw1.out) hb); clear HOw1; have HOw1 := n_; clear n_
  have n_ := Aside0.mk (Kd.R_below (by (with_reducible repeat (first | apply Kd.R_alloc | apply Kd.R_drewN | apply Kd.R_drew)); exact HOx0.out) hb); clear HOx0; have HOx0 := n_; clear n_
  have n_ := Aside0.mk (Kd.R_below (by (with_reducible repeat (first | apply Kd.R_alloc | apply Kd.R_drewN | apply Kd.R_drew)); exact HOx2.out) hb); clear HOx2; have HOx2 := n_; clear n_
  have HB6 := Aside0.mk (below_step (by repeat (first | (with_reducible first | exact HB5.out | apply below_alloc | apply pw_below_drewN | apply below_drew1) | exact HB5.out)) hb)
  have SZ6 := Aside0.mk (show w5.heap.size ≤ w6.heap.size from below_size (below_step (by repeat (first | (with_reducible first | exact Below.refl _ _ | apply below_alloc | apply pw_below_drewN | apply below_drew1) | exact Below.refl _ _)) hb))
  have HOg0 := Aside0.mk (R_ivp (a := w5.heap.size) (b := w.heap.size) ho1 (below_size (by repeat (first | (with_reducible first | exact Below.refl _ _ | apply below_alloc | apply pw_below_drewN | apply below_drew1) | exact Below.refl _ _))) (below_size (by repeat (first | (with_reducible first | exact HB5.out | apply below_alloc | apply pw_below_drewN | apply below_drew1) | exact HB5.out))))
  obtain ⟨Arg0, crg0, erg0⟩ := Kd.R_slice HOg0.out
  subst erg0
  have HOg1 := Aside0.mk (R_ivp (a := w5.heap.size) (b := w.heap.size) ho2 (below_size (by repeat (first | (with_reducible first | exact Below.refl _ _ | apply below_alloc | apply pw_below_drewN | apply below_drew1) | exact Below.refl _ _))) (below_size (by repeat (first | (with_reducible first | exact HB5.out | apply below_alloc | apply pw_below_drewN | apply below_drew1) | exact HB5.out))))
  obtain ⟨Arg1, crg1, erg1⟩ := Kd.R_slice HOg1.out
  subst erg1
  have HS6 := Aside0.mk hs
  clear ho1 ho2 hs hb
  go_wp2_with fail
  refine (laws_eqIntS.calls kX2 _ _ (setA L0 a1 l2).1 _ _ (setA L0 a1 l2).1 true _ (by repeat (first | exact (Kd.R_reads' HOg0.out).2.2 | (with_reducible refine Kd.C_alloc ?_ _) | (with_reducible refine Kd.C_drewN ?_ _) | (with_reducible refine Kd.C_drew ?_))) (Kd.R_reads' HOg0.out).2.1 (by repeat (first | exact (Kd.R_reads' HOw0.out).2.2 | (with_reducible refine Kd.C_alloc ?_ _) | (with_reducible refine Kd.C_drewN ?_ _) | (with_reducible refine Kd.C_drew ?_))) (Kd.R_reads' HOw0.out).2.1 X2.out).mono ?_
  rintro e w7 ⟨rfl, hb0⟩
  have hb := Drawn0.below hb0
  clear hb0
  have n_ := Aside0.mk (Kd.R_below (by (with_reducible repeat (first | apply Kd.R_alloc | apply Kd.R_drewN | apply Kd.R_drew)); exact HOw0.out) hb); clear HOw0; have HOw0 := n_; clear n_
  have n_ := Aside0.mk (Kd.R_below (by (with_reducible repeat (first | apply Kd.R_alloc | apply Kd.R_drewN | apply Kd.R_drew)); exact HOw1.out) hb); clear HOw1; have HOw1 := n_; clear n_
  have n_ := Aside0.mk (Kd.R_below (by (with_reducible repeat (first | apply Kd.R_alloc | apply Kd.R_drewN | apply Kd.R_drew)); exact HOx0.out) hb); clear HOx0; have HOx0 := n_; clear n_
  have n_ := Aside0.mk (Kd.R_below (by (with_reducible repeat (first | apply Kd.R_alloc | apply Kd.R_drewN | apply Kd.R_drew)); exact HOx2.out) hb); clear HOx2; have HOx2 := n_; clear n_
  have n_ := Aside0.mk (Kd.R_below (by (with_reducible repeat (first | apply Kd.R_alloc | apply Kd.R_drewN | apply Kd.R_drew)); exact HOg0.out) hb); clear HOg0; have HOg0 := n_; clear n_
  have n_ := Aside0.mk (Kd.R_below (by (with_reducible repeat (first | apply Kd.R_alloc | apply Kd.R_drewN | apply Kd.R_drew)); exact HOg1.out) hb); clear HOg1; have HOg1 := n_; clear n_
  have HB7 := Aside0.mk (below_step (by repeat (first | (with_reducible first | exact HB6.out | apply below_alloc | apply pw_below_drewN | apply below_drew1) | exact HB6.out)) hb)
  have SZ7 := Aside0.mk (show w6.heap.size ≤ w7.heap.size from below_size (below_step (by repeat (first | (with_reducible first | exact Below.refl _ _ | apply below_alloc | apply pw_below_drewN | apply below_drew1) | exact Below.refl _ _)) hb))
  clear hb
  go_wp2_with fail
  refine (laws_eqIntS.calls kX3 _ _ (setA L0 a1 l2).2.1 _ _ (setA L0 a1 l2).2.1 true _ (by repeat (first | exact (Kd.R_reads' HOg1.out).2.2 | (with_reducible refine Kd.C_alloc ?_ _) | (with_reducible refine Kd.C_drewN ?_ _) | (with_reducible refine Kd.C_drew ?_))) (Kd.R_reads' HOg1.out).2.1 (by repeat (first | exact (Kd.R_reads' HOw1.out).2.2 | (with_reducible refine Kd.C_alloc ?_ _) | (with_reducible refine Kd.C_drewN ?_ _) | (with_reducible refine Kd.C_drew ?_))) (Kd.R_reads' HOw1.out).2.1 X3.out).mono ?_
  rintro e w8 ⟨rfl, hb0⟩
  have hb := Drawn0.below hb0
  clear hb0
  have n_ := Aside0.mk (Kd.R_below (by (with_reducible repeat (first | apply Kd.R_alloc | apply Kd.R_drewN | apply Kd.R_drew)); exact HOw0.out) hb); clear HOw0; have HOw0 := n_; clear n_
  have n_ := Aside0.mk (Kd.R_below (by (with_reducible repeat (first | apply Kd.R_alloc | apply Kd.R_drewN | apply Kd.R_drew)); exact HOw1.out) hb); clear HOw1; have HOw1 := n_; clear n_
  have n_ := Aside0.mk (Kd.R_below (by (with_reducible repeat (first | apply Kd.R_alloc | apply Kd.R_drewN | apply Kd.R_drew)); exact HOx0.out) hb); clear HOx0; have HOx0 := n_; clear n_
  have n_ := Aside0.mk (Kd.R_below (by (with_reducible repeat (first | apply Kd.R_alloc | apply Kd.R_drewN | apply Kd.R_drew)); exact HOx2.out) hb); clear HOx2; have HOx2 := n_; clear n_
  have n_ := Aside0.mk (Kd.R_below (by (with_reducible repeat (first | apply Kd.R_alloc | apply Kd.R_drewN | apply Kd.R_drew)); exact HOg0.out) hb); clear HOg0; have HOg0 := n_; clear n_
  have n_ := Aside0.mk (Kd.R_below (by (with_reducible repeat (first | apply Kd.R_alloc | apply Kd.R_drewN | apply Kd.R_drew)); exact HOg1.out) hb); clear HOg1; have HOg1 := n_; clear n_
  have HB8 := Aside0.mk (below_step (by repeat (first | (with_reducible first | exact HB7.out | apply below_alloc | apply pw_below_drewN | apply below_drew1) | exact HB7.out)) hb)
  have SZ8 := Aside0.mk (show w7.heap.size ≤ w8.heap.size from below_size (below_step (by repeat (first | (with_reducible first | exact Below.refl _ _ | apply below_alloc | apply pw_below_drewN | apply below_drew1) | exact Below.refl _ _)) hb))
  clear hb
  go_wp2_with fail
  refine (laws_toClaimS.calls kX0 _ _ l0 _ _ (by repeat (first | exact (Kd.C_below HR0.out HB8.out) | (with_reducible refine Kd.C_alloc ?_ _) | (with_reducible refine Kd.C_drewN ?_ _) | (with_reducible refine Kd.C_drew ?_))) HC0.out X0.out).mono ?_
  rintro e w9 ⟨v, rfl, ho, hb⟩
  have n_ := Aside0.mk (Kd.R_below (by (with_reducible repeat (first | apply Kd.R_alloc | apply Kd.R_drewN | apply Kd.R_drew)); exact HOw0.out) hb); clear HOw0; have HOw0 := n_; clear n_
  have n_ := Aside0.mk (Kd.R_below (by (with_reducible repeat (first | apply Kd.R_alloc | apply Kd.R_drewN | apply Kd.R_drew)); exact HOw1.out) hb); clear HOw1; have HOw1 := n_; clear n_
  have n_ := Aside0.mk (Kd.R_below (by (with_reducible repeat (first | apply Kd.R_alloc | apply Kd.R_drewN | apply Kd.R_drew)); exact HOx0.out) hb); clear HOx0; have HOx0 := n_; clear n_
  have n_ := Aside0.mk (Kd.R_below (by (with_reducible repeat (first | apply Kd.R_alloc | apply Kd.R_drewN | apply Kd.R_drew)); exact HOx2.out) hb); clear HOx2; have HOx2 := n_; clear n_
  have n_ := Aside0.mk (Kd.R_below (by (with_reducible repeat (first | apply Kd.R_alloc | apply Kd.R_drewN | apply Kd.R_drew)); exact HOg0.out) hb); clear HOg0; have HOg0 := n_; clear n_
  have n_ := Aside0.mk (Kd.R_below (by (with_reducible repeat (first | apply Kd.R_alloc | apply Kd.R_drewN | apply Kd.R_drew)); exact HOg1.out) hb); clear HOg1; have HOg1 := n_; clear n_
  have HB9 := Aside0.mk (below_step (by repeat (first | (with_reducible first | exact HB8.out | apply below_alloc | apply pw_below_drewN | apply below_drew1) | exact HB8.out)) hb)
  have SZ9 := Aside0.mk (show w8.heap.size ≤ w9.heap.size from below_size (below_step (by repeat (first | (with_reducible first | exact Below.refl _ _ | apply below_alloc | apply pw_below_drewN | apply below_drew1) | exact Below.refl _ _)) hb))
  have HOt3 := Aside0.mk (R_ivw (a := w8.heap.size) (b := w.heap.size) ho (below_size (by repeat (first | (with_reducible first | exact Below.refl _ _ | apply below_alloc | apply pw_below_drewN | apply below_drew1) | exact Below.refl _ _))) (below_size (by repeat (first | (with_reducible first | exact HB8.out | apply below_alloc | apply pw_below_drewN | apply below_drew1) | exact HB8.out))))
  obtain ⟨Art3, crt3, ert3⟩ := Kd.R_slice HOt3.out
  subst ert3
  clear ho hb
  go_wp2_with fail
  refine (laws_eqClaimS.calls kX4 _ _ L0 _ _ L0 true _ (by repeat (first | exact (Kd.R_reads' HOx0.out).2.2 | (with_reducible refine Kd.C_alloc ?_ _) | (with_reducible refine Kd.C_drewN ?_ _) | (with_reducible refine Kd.C_drew ?_))) (Kd.R_reads' HOx0.out).2.1 (by repeat (first | exact (Kd.R_reads' HOt3.out).2.2 | (with_reducible refine Kd.C_alloc ?_ _) | (with_reducible refine Kd.C_drewN ?_ _) | (with_reducible refine Kd.C_drew ?_))) (Kd.R_reads' HOt3.out).2.1 X4.out).mono ?_
  rintro e w10 ⟨rfl, hb⟩
  have n_ := Aside0.mk (Kd.R_below (by (with_reducible repeat (first | apply Kd.R_alloc | apply Kd.R_drewN | apply Kd.R_drew)); exact HOw0.out) hb); clear HOw0; have HOw0 := n_; clear n_
  have n_ := Aside0.mk (Kd.R_below (by (with_reducible repeat (first | apply Kd.R_alloc | apply Kd.R_drewN | apply Kd.R_drew)); exact HOw1.out) hb); clear HOw1; have HOw1 := n_; clear n_
  have n_ := Aside0.mk (Kd.R_below (by (with_reducible repeat (first | apply Kd.R_alloc | apply Kd.R_drewN | apply Kd.R_drew)); exact HOx0.out) hb); clear HOx0; have HOx0 := n_; clear n_
  have n_ := Aside0.mk (Kd.R_below (by (with_reducible repeat (first | apply Kd.R_alloc | apply Kd.R_drewN | apply Kd.R_drew)); exact HOx2.out) hb); clear HOx2; have HOx2 := n_; clear n_
  have n_ := Aside0.mk (Kd.R_below (by (with_reducible repeat (first | apply Kd.R_alloc | apply Kd.R_drewN | apply Kd.R_drew)); exact HOg0.out) hb); clear HOg0; have HOg0 := n_; clear n_
  have n_ := Aside0.mk (Kd.R_below (by (with_reducible repeat (first | apply Kd.R_alloc | apply Kd.R_drewN | apply Kd.R_drew)); exact HOg1.out) hb); clear HOg1; have HOg1 := n_; clear n_
  have n_ := Aside0.mk (Kd.R_below (by (with_reducible repeat (first | apply Kd.R_alloc | apply Kd.R_drewN | apply Kd.R_drew)); exact HOt3.out) hb); clear HOt3; have HOt3 := n_; clear n_
  have HB10 := Aside0.mk (below_step (by repeat (first | (with_reducible first | exact HB9.out | apply below_alloc | apply pw_below_drewN | apply below_drew1) | exact HB9.out)) hb)
  have SZ10 := Aside0.mk (show w9.heap.size ≤ w10.heap.size from below_size (below_step (by repeat (first | (with_reducible first | exact Below.refl _ _ | apply below_alloc | apply pw_below_drewN | apply below_drew1) | exact Below.refl _ _)) hb))
  clear hb
  go_wp2_with fail
  refine (laws_toIntS.calls kX1 _ _ l2 _ _ (by repeat (first | exact (Kd.C_below HR2.out HB10.out) | (with_reducible refine Kd.C_alloc ?_ _) | (with_reducible refine Kd.C_drewN ?_ _) | (with_reducible refine Kd.C_drew ?_))) HC2.out X1.out).mono ?_
  rintro e w11 ⟨v, rfl, ho, hb⟩
  have n_ := Aside0.mk (Kd.R_below (by (with_reducible repeat (first | apply Kd.R_alloc | apply Kd.R_drewN | apply Kd.R_drew)); exact HOw0.out) hb); clear HOw0; have HOw0 := n_; clear n_
  have n_ := Aside0.mk (Kd.R_below (by (with_reducible repeat (first | apply Kd.R_alloc | apply Kd.R_drewN | apply Kd.R_drew)); exact HOw1.out) hb); clear HOw1; have HOw1 := n_; clear n_
  have n_ := Aside0.mk (Kd.R_below (by (with_reducible repeat (first | apply Kd.R_alloc | apply Kd.R_drewN | apply Kd.R_drew)); exact HOx0.out) hb); clear HOx0; have HOx0 := n_; clear n_
  have n_ := Aside0.mk (Kd.R_below (by (with_reducible repeat (first | apply Kd.R_alloc | apply Kd.R_drewN | apply Kd.R_drew)); exact HOx2.out) hb); clear HOx2; have HOx2 := n_; clear n_
  have n_ := Aside0.mk (Kd.R_below (by (with_reducible repeat (first | apply Kd.R_alloc | apply Kd.R_drewN | apply Kd.R_drew)); exact HOg0.out) hb); clear HOg0; have HOg0 := n_; clear n_
  have n_ := Aside0.mk (Kd.R_below (by (with_reducible repeat (first | apply Kd.R_alloc | apply Kd.R_drewN | apply Kd.R_drew)); exact HOg1.out) hb); clear HOg1; have HOg1 := n_; clear n_
  have HB11 := Aside0.mk (below_step (by repeat (first | (with_reducible first | exact HB10.out | apply below_alloc | apply pw_below_drewN | apply below_drew1) | exact HB10.out)) hb)
  have SZ11 := Aside0.mk (show w10.heap.size ≤ w11.heap.size from below_size (below_step (by repeat (first | (with_reducible first | exact Below.refl _ _ | apply below_alloc | apply pw_below_drewN | apply below_drew1) | exact Below.refl _ _)) hb))
  have HOt4 := Aside0.mk (R_ivw (a := w10.heap.size) (b := w.heap.size) ho (below_size (by repeat (first | (with_reducible first | exact Below.refl _ _ | apply below_alloc | apply pw_below_drewN | apply below_drew1) | exact Below.refl _ _))) (below_size (by repeat (first | (with_reducible first | exact HB10.out | apply below_alloc | apply pw_below_drewN | apply below_drew1) | exact HB10.out))))
  obtain ⟨Art4, crt4, ert4⟩ := Kd.R_slice HOt4.out
  subst ert4
  clear ho hb
  go_wp2_with fail
  refine (laws_eqIntS.calls kX5 _ _ l2 _ _ l2 true _ (by repeat (first | exact (Kd.R_reads' HOx2.out).2.2 | (with_reducible refine Kd.C_alloc ?_ _) | (with_reducible refine Kd.C_drewN ?_ _) | (with_reducible refine Kd.C_drew ?_))) (Kd.R_reads' HOx2.out).2.1 (by repeat (first | exact (Kd.R_reads' HOt4.out).2.2 | (with_reducible refine Kd.C_alloc ?_ _) | (with_reducible refine Kd.C_drewN ?_ _) | (with_reducible refine Kd.C_drew ?_))) (Kd.R_reads' HOt4.out).2.1 X5.out).mono ?_
  rintro e w12 ⟨rfl, hb0⟩
  have hb := Drawn0.below hb0
  clear hb0
  have n_ := Aside0.mk (Kd.R_below (by (with_reducible repeat (first | apply Kd.R_alloc | apply Kd.R_drewN | apply Kd.R_drew)); exact HOw0.out) hb); clear HOw0; have HOw0 := n_; clear n_
  have n_ := Aside0.mk (Kd.R_below (by (with_reducible repeat (first | apply Kd.R_alloc | apply Kd.R_drewN | apply Kd.R_drew)); exact HOw1.out) hb); clear HOw1; have HOw1 := n_; clear n_
  have n_ := Aside0.mk (Kd.R_below (by (with_reducible repeat (first | apply Kd.R_alloc | apply Kd.R_drewN | apply Kd.R_drew)); exact HOx0.out) hb); clear HOx0; have HOx0 := n_; clear n_
  have n_ := Aside0.mk (Kd.R_below (by (with_reducible repeat (first | apply Kd.R_alloc | apply Kd.R_drewN | apply Kd.R_drew)); exact HOx2.out) hb); clear HOx2; have HOx2 := n_; clear n_
  have n_ := Aside0.mk (Kd.R_below (by (with_reducible repeat (first | apply Kd.R_alloc | apply Kd.R_drewN | apply Kd.R_drew)); exact HOg0.out) hb); clear HOg0; have HOg0 := n_; clear n_
  have n_ := Aside0.mk (Kd.R_below (by (with_reducible repeat (first | apply Kd.R_alloc | apply Kd.R_drewN | apply Kd.R_drew)); exact HOg1.out) hb); clear HOg1; have HOg1 := n_; clear n_
  have n_ := Aside0.mk (Kd.R_below (by (with_reducible repeat (first | apply Kd.R_alloc | apply Kd.R_drewN | apply Kd.R_drew)); exact HOt4.out) hb); clear HOt4; have HOt4 := n_; clear n_
  have HB12 := Aside0.mk (below_step (by repeat (first | (with_reducible first | exact HB11.out | apply below_alloc | apply pw_below_drewN | apply below_drew1) | exact HB11.out)) hb)
  have SZ12 := Aside0.mk (show w11.heap.size ≤ w12.heap.size from below_size (below_step (by repeat (first | (with_reducible first | exact Below.refl _ _ | apply below_alloc | apply pw_below_drewN | apply below_drew1) | exact Below.refl _ _)) hb))
  clear hb
  go_wp2_with fail
  refine (laws_markClaimS.calls kX6 (Iv w3.heap.size w4.heap.size) _ L0 1 _ _ w _ (by repeat (first | (with_reducible first | exact HB12.out | apply below_alloc | apply pw_below_drewN | apply below_drew1) | exact HB12.out)) (by (with_reducible repeat (first | apply Kd.R_alloc | apply Kd.R_drewN | apply Kd.R_drew)); exact HOx0.out) X6.out).mono ?_
  rintro e w13 ⟨rfl, ho, hb, hk⟩
  have n_ := Aside0.mk (Kd.R_kept (by (with_reducible repeat (first | apply Kd.R_alloc | apply Kd.R_drewN | apply Kd.R_drew)); exact HOw0.out) hk (fun k h1_ h2_ => by have a_ := h1_.1.1; have b_ := h1_.1.2; have c_ := h2_.1; have d_ := h2_.2; have SZ1_ := SZ1.out; have SZ2_ := SZ2.out; have SZ3_ := SZ3.out; have SZ4_ := SZ4.out; have SZ5_ := SZ5.out; have SZ6_ := SZ6.out; have SZ7_ := SZ7.out; have SZ8_ := SZ8.out; have SZ9_ := SZ9.out; have SZ10_ := SZ10.out; have SZ11_ := SZ11.out; have SZ12_ := SZ12.out; omega)); clear HOw0; have HOw0 := n_; clear n_
  have n_ := Aside0.mk (Kd.R_kept (by (with_reducible repeat (first | apply Kd.R_alloc | apply Kd.R_drewN | apply Kd.R_drew)); exact HOw1.out) hk (fun k h1_ h2_ => by have a_ := h1_.1.1; have b_ := h1_.1.2; have c_ := h2_.1; have d_ := h2_.2; have SZ1_ := SZ1.out; have SZ2_ := SZ2.out; have SZ3_ := SZ3.out; have SZ4_ := SZ4.out; have SZ5_ := SZ5.out; have SZ6_ := SZ6.out; have SZ7_ := SZ7.out; have SZ8_ := SZ8.out; have SZ9_ := SZ9.out; have SZ10_ := SZ10.out; have SZ11_ := SZ11.out; have SZ12_ := SZ12.out; omega)); clear HOw1; have HOw1 := n_; clear n_
  have n_ := Aside0.mk (Kd.R_kept (by (with_reducible repeat (first | apply Kd.R_alloc | apply Kd.R_drewN | apply Kd.R_drew)); exact HOx2.out) hk (fun k h1_ h2_ => by have a_ := h1_.1; have b_ := h1_.2; have c_ := h2_.1; have d_ := h2_.2; have SZ1_ := SZ1.out; have SZ2_ := SZ2.out; have SZ3_ := SZ3.out; have SZ4_ := SZ4.out; have SZ5_ := SZ5.out; have SZ6_ := SZ6.out; have SZ7_ := SZ7.out; have SZ8_ := SZ8.out; have SZ9_ := SZ9.out; have SZ10_ := SZ10.out; have SZ11_ := SZ11.out; have SZ12_ := SZ12.out; omega)); clear HOx2; have HOx2 := n_; clear n_
  have n_ := Aside0.mk (Kd.R_kept (by (with_reducible repeat (first | apply Kd.R_alloc | apply Kd.R_drewN | apply Kd.R_drew)); exact HOg0.out) hk (fun k h1_ h2_ => by have a_ := h1_.1.1; have b_ := h1_.1.2; have c_ := h2_.1; have d_ := h2_.2; have SZ1_ := SZ1.out; have SZ2_ := SZ2.out; have SZ3_ := SZ3.out; have SZ4_ := SZ4.out; have SZ5_ := SZ5.out; have SZ6_ := SZ6.out; have SZ7_ := SZ7.out; have SZ8_ := SZ8.out; have SZ9_ := SZ9.out; have SZ10_ := SZ10.out; have SZ11_ := SZ11.out; have SZ12_ := SZ12.out; omega)); clear HOg0; have HOg0 := n_; clear n_
  have n_ := Aside0.mk (Kd.R_kept (by (with_reducible repeat (first | apply Kd.R_alloc | apply Kd.R_drewN | apply Kd.R_drew)); exact HOg1.out) hk (fun k h1_ h2_ => by have a_ := h1_.1.1; have b_ := h1_.1.2; have c_ := h2_.1; have d_ := h2_.2; have SZ1_ := SZ1.out; have SZ2_ := SZ2.out; have SZ3_ := SZ3.out; have SZ4_ := SZ4.out; have SZ5_ := SZ5.out; have SZ6_ := SZ6.out; have SZ7_ := SZ7.out; have SZ8_ := SZ8.out; have SZ9_ := SZ9.out; have SZ10_ := SZ10.out; have SZ11_ := SZ11.out; have SZ12_ := SZ12.out; omega)); clear HOg1; have HOg1 := n_; clear n_
  have HB13 := Aside0.mk hb
  have SZ13 := Aside0.mk (show w12.heap.size ≤ w13.heap.size from hk.1)
  have n_ := Aside0.mk (R_flat flat_Claim ho HOx0.out.1); clear HOx0; have HOx0 := n_; clear n_
  clear ho hb hk
  go_wp2_with fail
  refine (laws_markIntS.calls kX7 (Iv w4.heap.size w5.heap.size) _ l2 mX6 _ _ w _ (by repeat (first | (with_reducible first | exact HB13.out | apply below_alloc | apply pw_below_drewN | apply below_drew1) | exact HB13.out)) (by (with_reducible repeat (first | apply Kd.R_alloc | apply Kd.R_drewN | apply Kd.R_drew)); exact HOx2.out) X7.out).mono ?_
  rintro e w14 ⟨rfl, ho, hb, hk⟩
  have n_ := Aside0.mk (Kd.R_kept (by (with_reducible repeat (first | apply Kd.R_alloc | apply Kd.R_drewN | apply Kd.R_drew)); exact HOw0.out) hk (fun k h1_ h2_ => by have a_ := h1_.1.1; have b_ := h1_.1.2; have c_ := h2_.1; have d_ := h2_.2; have SZ1_ := SZ1.out; have SZ2_ := SZ2.out; have SZ3_ := SZ3.out; have SZ4_ := SZ4.out; have SZ5_ := SZ5.out; have SZ6_ := SZ6.out; have SZ7_ := SZ7.out; have SZ8_ := SZ8.out; have SZ9_ := SZ9.out; have SZ10_ := SZ10.out; have SZ11_ := SZ11.out; have SZ12_ := SZ12.out; have SZ13_ := SZ13.out; omega)); clear HOw0; have HOw0 := n_; clear n_
  have n_ := Aside0.mk (Kd.R_kept (by (with_reducible repeat (first | apply Kd.R_alloc | apply Kd.R_drewN | apply Kd.R_drew)); exact HOw1.out) hk (fun k h1_ h2_ => by have a_ := h1_.1.1; have b_ := h1_.1.2; have c_ := h2_.1; have d_ := h2_.2; have SZ1_ := SZ1.out; have SZ2_ := SZ2.out; have SZ3_ := SZ3.out; have SZ4_ := SZ4.out; have SZ5_ := SZ5.out; have SZ6_ := SZ6.out; have SZ7_ := SZ7.out; have SZ8_ := SZ8.out; have SZ9_ := SZ9.out; have SZ10_ := SZ10.out; have SZ11_ := SZ11.out; have SZ12_ := SZ12.out; have SZ13_ := SZ13.out; omega)); clear HOw1; have HOw1 := n_; clear n_
  have n_ := Aside0.mk (Kd.R_kept (by (with_reducible repeat (first | apply Kd.R_alloc | apply Kd.R_drewN | apply Kd.R_drew)); exact HOx0.out) hk (fun k h1_ h2_ => by have a_ := h1_.1; have b_ := h1_.2; have c_ := h2_.1; have d_ := h2_.2; have SZ1_ := SZ1.out; have SZ2_ := SZ2.out; have SZ3_ := SZ3.out; have SZ4_ := SZ4.out; have SZ5_ := SZ5.out; have SZ6_ := SZ6.out; have SZ7_ := SZ7.out; have SZ8_ := SZ8.out; have SZ9_ := SZ9.out; have SZ10_ := SZ10.out; have SZ11_ := SZ11.out; have SZ12_ := SZ12.out; have SZ13_ := SZ13.out; omega)); clear HOx0; have HOx0 := n_; clear n_
  have n_ := Aside0.mk (Kd.R_kept (by (with_reducible repeat (first | apply Kd.R_alloc | apply Kd.R_drewN | apply Kd.R_drew)); exact HOg0.out) hk (fun k h1_ h2_ => by have a_ := h1_.1.1; have b_ := h1_.1.2; have c_ := h2_.1; have d_ := h2_.2; have SZ1_ := SZ1.out; have SZ2_ := SZ2.out; have SZ3_ := SZ3.out; have SZ4_ := SZ4.out; have SZ5_ := SZ5.out; have SZ6_ := SZ6.out; have SZ7_ := SZ7.out; have SZ8_ := SZ8.out; have SZ9_ := SZ9.out; have SZ10_ := SZ10.out; have SZ11_ := SZ11.out; have SZ12_ := SZ12.out; have SZ13_ := SZ13.out; omega)); clear HOg0; have HOg0 := n_; clear n_
  have n_ := Aside0.mk (Kd.R_kept (by (with_reducible repeat (first | apply Kd.R_alloc | apply Kd.R_drewN | apply Kd.R_drew)); exact HOg1.out) hk (fun k h1_ h2_ => by have a_ := h1_.1.1; have b_ := h1_.1.2; have c_ := h2_.1; have d_ := h2_.2; have SZ1_ := SZ1.out; have SZ2_ := SZ2.out; have SZ3_ := SZ3.out; have SZ4_ := SZ4.out; have SZ5_ := SZ5.out; have SZ6_ := SZ6.out; have SZ7_ := SZ7.out; have SZ8_ := SZ8.out; have SZ9_ := SZ9.out; have SZ10_ := SZ10.out; have SZ11_ := SZ11.out; have SZ12_ := SZ12.out; have SZ13_ := SZ13.out; omega)); clear HOg1; have HOg1 := n_; clear n_
  have HB14 := Aside0.mk hb
  have SZ14 := Aside0.mk (show w13.heap.size ≤ w14.heap.size from hk.1)
  have n_ := Aside0.mk (R_flat flat_int ho HOx2.out.1); clear HOx2; have HOx2 := n_; clear n_
  clear ho hb hk
  go_wp2_with fail
  refine (laws_eqIntS.calls kX2 _ _ (setA L0 a1 l2).1 _ _ (setA L0 a1 l2).1 true _ (by repeat (first | exact (Kd.R_reads' HOg0.out).2.2 | (with_reducible refine Kd.C_alloc ?_ _) | (with_reducible refine Kd.C_drewN ?_ _) | (with_reducible refine Kd.C_drew ?_))) (Kd.R_reads' HOg0.out).2.1 (by repeat (first | exact (Kd.R_reads' HOw0.out).2.2 | (with_reducible refine Kd.C_alloc ?_ _) | (with_reducible refine Kd.C_drewN ?_ _) | (with_reducible refine Kd.C_drew ?_))) (Kd.R_reads' HOw0.out).2.1 X2.out).mono ?_
  rintro e w15 ⟨rfl, hb0⟩
  have hb := Drawn0.below hb0
  clear hb0
  have n_ := Aside0.mk (Kd.R_below (by (with_reducible repeat (first | apply Kd.R_alloc | apply Kd.R_drewN | apply Kd.R_drew)); exact HOw0.out) hb); clear HOw0; have HOw0 := n_; clear n_
  have n_ := Aside0.mk (Kd.R_below (by (with_reducible repeat (first | apply Kd.R_alloc | apply Kd.R_drewN | apply Kd.R_drew)); exact HOw1.out) hb); clear HOw1; have HOw1 := n_; clear n_
  have n_ := Aside0.mk (Kd.R_below (by (with_reducible repeat (first | apply Kd.R_alloc | apply Kd.R_drewN | apply Kd.R_drew)); exact HOx0.out) hb); clear HOx0; have HOx0 := n_; clear n_
  have n_ := Aside0.mk (Kd.R_below (by (with_reducible repeat (first | apply Kd.R_alloc | apply Kd.R_drewN | apply Kd.R_drew)); exact HOx2.out) hb); clear HOx2; have HOx2 := n_; clear n_
  have n_ := Aside0.mk (Kd.R_below (by (with_reducible repeat (first | apply Kd.R_alloc | apply Kd.R_drewN | apply Kd.R_drew)); exact HOg0.out) hb); clear HOg0; have HOg0 := n_; clear n_
  have n_ := Aside0.mk (Kd.R_below (by (with_reducible repeat (first | apply Kd.R_alloc | apply Kd.R_drewN | apply Kd.R_drew)); exact HOg1.out) hb); clear HOg1; have HOg1 := n_; clear n_
  have HB15 := Aside0.mk (below_step (by repeat (first | (with_reducible first | exact HB14.out | apply below_alloc | apply pw_below_drewN | apply below_drew1) | exact HB14.out)) hb)
  have SZ15 := Aside0.mk (show w14.heap.size ≤ w15.heap.size from below_size (below_step (by repeat (first | (with_reducible first | exact Below.refl _ _ | apply below_alloc | apply pw_below_drewN | apply below_drew1) | exact Below.refl _ _)) hb))
  clear hb
  go_wp2_with fail
  refine (laws_eqIntS.calls kX3 _ _ (setA L0 a1 l2).2.1 _ _ (setA L0 a1 l2).2.1 true _ (by repeat (first | exact (Kd.R_reads' HOg1.out).2.2 | (with_reducible refine Kd.C_alloc ?_ _) | (with_reducible refine Kd.C_drewN ?_ _) | (with_reducible refine Kd.C_drew ?_))) (Kd.R_reads' HOg1.out).2.1 (by repeat (first | exact (Kd.R_reads' HOw1.out).2.2 | (with_reducible refine Kd.C_alloc ?_ _) | (with_reducible refine Kd.C_drewN ?_ _) | (with_reducible refine Kd.C_drew ?_))) (Kd.R_reads' HOw1.out).2.1 X3.out).mono ?_
  rintro e w16 ⟨rfl, hb0⟩
  have hb := Drawn0.below hb0
  clear hb0
  have n_ := Aside0.mk (Kd.R_below (by (with_reducible repeat (first | apply Kd.R_alloc | apply Kd.R_drewN | apply Kd.R_drew)); exact HOw0.out) hb); clear HOw0; have HOw0 := n_; clear n_
  have n_ := Aside0.mk (Kd.R_below (by (with_reducible repeat (first | apply Kd.R_alloc | apply Kd.R_drewN | apply Kd.R_drew)); exact HOw1.out) hb); clear HOw1; have HOw1 := n_; clear n_
  have n_ := Aside0.mk (Kd.R_below (by (with_reducible repeat (first | apply Kd.R_alloc | apply Kd.R_drewN | apply Kd.R_drew)); exact HOx0.out) hb); clear HOx0; have HOx0 := n_; clear n_
  have n_ := Aside0.mk (Kd.R_below (by (with_reducible repeat (first | apply Kd.R_alloc | apply Kd.R_drewN | apply Kd.R_drew)); exact HOx2.out) hb); clear HOx2; have HOx2 := n_; clear n_
  have n_ := Aside0.mk (Kd.R_below (by (with_reducible repeat (first | apply Kd.R_alloc | apply Kd.R_drewN | apply Kd.R_drew)); exact HOg0.out) hb); clear HOg0; have HOg0 := n_; clear n_
  have n_ := Aside0.mk (Kd.R_below (by (with_reducible repeat (first | apply Kd.R_alloc | apply Kd.R_drewN | apply Kd.R_drew)); exact HOg1.out) hb); clear HOg1; have HOg1 := n_; clear n_
  have HB16 := Aside0.mk (below_step (by repeat (first | (with_reducible first | exact HB15.out | apply below_alloc | apply pw_below_drewN | apply below_drew1) | exact HB15.out)) hb)
  have SZ16 := Aside0.mk (show w15.heap.size ≤ w16.heap.size from below_size (below_step (by repeat (first | (with_reducible first | exact Below.refl _ _ | apply below_alloc | apply pw_below_drewN | apply below_drew1) | exact Below.refl _ _)) hb))
  clear hb
  go_wp2_with fail
  refine (laws_markIntS.calls kX8 (IvP w5.heap.size w6.heap.size (Value.slice Arg0 ((setA L0 a1 l2).1).length crg0).ownBlock) _ (setA L0 a1 l2).1 1 _ _ w _ (by repeat (first | (with_reducible first | exact HB16.out | apply below_alloc | apply pw_below_drewN | apply below_drew1) | exact HB16.out)) (by (with_reducible repeat (first | apply Kd.R_alloc | apply Kd.R_drewN | apply Kd.R_drew)); exact HOg0.out) X8.out).mono ?_
  rintro e w17 ⟨rfl, ho, hb, hk⟩
  have n_ := Aside0.mk (Kd.R_kept (by (with_reducible repeat (first | apply Kd.R_alloc | apply Kd.R_drewN | apply Kd.R_drew)); exact HOw0.out) hk (fun k h1_ h2_ => by have a_ := h1_.1.1; have b_ := h1_.1.2; have c_ := h2_.1.1; have d_ := h2_.1.2; have SZ1_ := SZ1.out; have SZ2_ := SZ2.out; have SZ3_ := SZ3.out; have SZ4_ := SZ4.out; have SZ5_ := SZ5.out; have SZ6_ := SZ6.out; have SZ7_ := SZ7.out; have SZ8_ := SZ8.out; have SZ9_ := SZ9.out; have SZ10_ := SZ10.out; have SZ11_ := SZ11.out; have SZ12_ := SZ12.out; have SZ13_ := SZ13.out; have SZ14_ := SZ14.out; have SZ15_ := SZ15.out; have SZ16_ := SZ16.out; omega)); clear HOw0; have HOw0 := n_; clear n_
  have n_ := Aside0.mk (Kd.R_kept (by (with_reducible repeat (first | apply Kd.R_alloc | apply Kd.R_drewN | apply Kd.R_drew)); exact HOw1.out) hk (fun k h1_ h2_ => by have a_ := h1_.1.1; have b_ := h1_.1.2; have c_ := h2_.1.1; have d_ := h2_.1.2; have SZ1_ := SZ1.out; have SZ2_ := SZ2.out; have SZ3_ := SZ3.out; have SZ4_ := SZ4.out; have SZ5_ := SZ5.out; have SZ6_ := SZ6.out; have SZ7_ := SZ7.out; have SZ8_ := SZ8.out; have SZ9_ := SZ9.out; have SZ10_ := SZ10.out; have SZ11_ := SZ11.out; have SZ12_ := SZ12.out; have SZ13_ := SZ13.out; have SZ14_ := SZ14.out; have SZ15_ := SZ15.out; have SZ16_ := SZ16.out; omega)); clear HOw1; have HOw1 := n_; clear n_
  have n_ := Aside0.mk (Kd.R_kept (by (with_reducible repeat (first | apply Kd.R_alloc | apply Kd.R_drewN | apply Kd.R_drew)); exact HOx0.out) hk (fun k h1_ h2_ => by have a_ := h1_.1; have b_ := h1_.2; have c_ := h2_.1.1; have d_ := h2_.1.2; have SZ1_ := SZ1.out; have SZ2_ := SZ2.out; have SZ3_ := SZ3.out; have SZ4_ := SZ4.out; have SZ5_ := SZ5.out; have SZ6_ := SZ6.out; have SZ7_ := SZ7.out; have SZ8_ := SZ8.out; have SZ9_ := SZ9.out; have SZ10_ := SZ10.out; have SZ11_ := SZ11.out; have SZ12_ := SZ12.out; have SZ13_ := SZ13.out; have SZ14_ := SZ14.out; have SZ15_ := SZ15.out; have SZ16_ := SZ16.out; omega)); clear HOx0; have HOx0 := n_; clear n_
  have n_ := Aside0.mk (Kd.R_kept (by (with_reducible repeat (first | apply Kd.R_alloc | apply Kd.R_drewN | apply Kd.R_drew)); exact HOx2.out) hk (fun k h1_ h2_ => by have a_ := h1_.1; have b_ := h1_.2; have c_ := h2_.1.1; have d_ := h2_.1.2; have SZ1_ := SZ1.out; have SZ2_ := SZ2.out; have SZ3_ := SZ3.out; have SZ4_ := SZ4.out; have SZ5_ := SZ5.out; have SZ6_ := SZ6.out; have SZ7_ := SZ7.out; have SZ8_ := SZ8.out; have SZ9_ := SZ9.out; have SZ10_ := SZ10.out; have SZ11_ := SZ11.out; have SZ12_ := SZ12.out; have SZ13_ := SZ13.out; have SZ14_ := SZ14.out; have SZ15_ := SZ15.out; have SZ16_ := SZ16.out; omega)); clear HOx2; have HOx2 := n_; clear n_
  have n_ := Aside0.mk (Kd.R_kept (by (with_reducible repeat (first | apply Kd.R_alloc | apply Kd.R_drewN | apply Kd.R_drew)); exact HOg1.out) hk (fun k h1_ h2_ => by exact HS6.out k h2_.2 h1_.2)); clear HOg1; have HOg1 := n_; clear n_
  have HB17 := Aside0.mk hb
  have SZ17 := Aside0.mk (show w16.heap.size ≤ w17.heap.size from hk.1)
  have n_ := Aside0.mk (R_flat flat_int ho HOg0.out.1); clear HOg0; have HOg0 := n_; clear n_
  clear ho hb hk
  go_wp2_with fail
  refine (laws_markIntS.calls kX9 (IvP w5.heap.size w6.heap.size (Value.slice Arg1 ((setA L0 a1 l2).2.1).length crg1).ownBlock) _ (setA L0 a1 l2).2.1 mX8 _ _ w _ (by repeat (first | (with_reducible first | exact HB17.out | apply below_alloc | apply pw_below_drewN | apply below_drew1) | exact HB17.out)) (by (with_reducible repeat (first | apply Kd.R_alloc | apply Kd.R_drewN | apply Kd.R_drew)); exact HOg1.out) X9.out).mono ?_
  rintro e w18 ⟨rfl, ho, hb, hk⟩
  have n_ := Aside0.mk (Kd.R_kept (by (with_reducible repeat (first | apply Kd.R_alloc | apply Kd.R_drewN | apply Kd.R_drew)); exact HOw0.out) hk (fun k h1_ h2_ => by have a_ := h1_.1.1; have b_ := h1_.1.2; have c_ := h2_.1.1; have d_ := h2_.1.2; have SZ1_ := SZ1.out; have SZ2_ := SZ2.out; have SZ3_ := SZ3.out; have SZ4_ := SZ4.out; have SZ5_ := SZ5.out; have SZ6_ := SZ6.out; have SZ7_ := SZ7.out; have SZ8_ := SZ8.out; have SZ9_ := SZ9.out; have SZ10_ := SZ10.out; have SZ11_ := SZ11.out; have SZ12_ := SZ12.out; have SZ13_ := SZ13.out; have SZ14_ := SZ14.out; have SZ15_ := SZ15.out; have SZ16_ := SZ16.out; have SZ17_ := SZ17.out; omega)); clear HOw0; have HOw0 := n_; clear n_
  have n_ := Aside0.mk (Kd.R_kept (by (with_reducible repeat (first | apply Kd.R_alloc | apply Kd.R_drewN | apply Kd.R_drew)); exact HOw1.out) hk (fun k h1_ h2_ => by have a_ := h1_.1.1; have b_ := h1_.1.2; have c_ := h2_.1.1; have d_ := h2_.1.2; have SZ1_ := SZ1.out; have SZ2_ := SZ2.out; have SZ3_ := SZ3.out; have SZ4_ := SZ4.out; have SZ5_ := SZ5.out; have SZ6_ := SZ6.out; have SZ7_ := SZ7.out; have SZ8_ := SZ8.out; have SZ9_ := SZ9.out; have SZ10_ := SZ10.out; have SZ11_ := SZ11.out; have SZ12_ := SZ12.out; have SZ13_ := SZ13.out; have SZ14_ := SZ14.out; have SZ15_ := SZ15.out; have SZ16_ := SZ16.out; have SZ17_ := SZ17.out; omega)); clear HOw1; have HOw1 := n_; clear n_
  have n_ := Aside0.mk (Kd.R_kept (by (with_reducible repeat (first | apply Kd.R_alloc | apply Kd.R_drewN | apply Kd.R_drew)); exact HOx0.out) hk (fun k h1_ h2_ => by have a_ := h1_.1; have b_ := h1_.2; have c_ := h2_.1.1; have d_ := h2_.1.2; have SZ1_ := SZ1.out; have SZ2_ := SZ2.out; have SZ3_ := SZ3.out; have SZ4_ := SZ4.out; have SZ5_ := SZ5.out; have SZ6_ := SZ6.out; have SZ7_ := SZ7.out; have SZ8_ := SZ8.out; have SZ9_ := SZ9.out; have SZ10_ := SZ10.out; have SZ11_ := SZ11.out; have SZ12_ := SZ12.out; have SZ13_ := SZ13.out; have SZ14_ := SZ14.out; have SZ15_ := SZ15.out; have SZ16_ := SZ16.out; have SZ17_ := SZ17.out; omega)); clear HOx0; have HOx0 := n_; clear n_
  have n_ := Aside0.mk (Kd.R_kept (by (with_reducible repeat (first | apply Kd.R_alloc | apply Kd.R_drewN | apply Kd.R_drew)); exact HOx2.out) hk (fun k h1_ h2_ => by have a_ := h1_.1; have b_ := h1_.2; have c_ := h2_.1.1; have d_ := h2_.1.2; have SZ1_ := SZ1.out; have SZ2_ := SZ2.out; have SZ3_ := SZ3.out; have SZ4_ := SZ4.out; have SZ5_ := SZ5.out; have SZ6_ := SZ6.out; have SZ7_ := SZ7.out; have SZ8_ := SZ8.out; have SZ9_ := SZ9.out; have SZ10_ := SZ10.out; have SZ11_ := SZ11.out; have SZ12_ := SZ12.out; have SZ13_ := SZ13.out; have SZ14_ := SZ14.out; have SZ15_ := SZ15.out; have SZ16_ := SZ16.out; have SZ17_ := SZ17.out; omega)); clear HOx2; have HOx2 := n_; clear n_
  have n_ := Aside0.mk (Kd.R_kept (by (with_reducible repeat (first | apply Kd.R_alloc | apply Kd.R_drewN | apply Kd.R_drew)); exact HOg0.out) hk (fun k h1_ h2_ => by exact HS6.out k h1_.2 h2_.2)); clear HOg0; have HOg0 := n_; clear n_
  have HB18 := Aside0.mk hb
  have SZ18 := Aside0.mk (show w17.heap.size ≤ w18.heap.size from hk.1)
  have n_ := Aside0.mk (R_flat flat_int ho HOg1.out.1); clear HOg1; have HOg1 := n_; clear n_
  clear ho hb hk
  go_wp2_with fail
  refine calls_of_args (args' := #[.slice Arg0 UX8.length crg0, .int .i64 1]) (by rw [VX8.out]) ?_
  refine (laws_heldIntS.calls kX10 _ _ UX8 1 _ _ (by repeat (first | exact (Kd.R_reads' HOg0.out).2.2 | (with_reducible refine Kd.C_alloc ?_ _) | (with_reducible refine Kd.C_drewN ?_ _) | (with_reducible refine Kd.C_drew ?_))) (by rw [VX8.out]; exact (Kd.R_reads' HOg0.out).2.1) X10.out).mono ?_
  rintro e w19 ⟨rfl, hb0⟩
  have hb := Drawn0.below hb0
  clear hb0
  have n_ := Aside0.mk (Kd.R_below (by (with_reducible repeat (first | apply Kd.R_alloc | apply Kd.R_drewN | apply Kd.R_drew)); exact HOw0.out) hb); clear HOw0; have HOw0 := n_; clear n_
  have n_ := Aside0.mk (Kd.R_below (by (with_reducible repeat (first | apply Kd.R_alloc | apply Kd.R_drewN | apply Kd.R_drew)); exact HOw1.out) hb); clear HOw1; have HOw1 := n_; clear n_
  have n_ := Aside0.mk (Kd.R_below (by (with_reducible repeat (first | apply Kd.R_alloc | apply Kd.R_drewN | apply Kd.R_drew)); exact HOx0.out) hb); clear HOx0; have HOx0 := n_; clear n_
  have n_ := Aside0.mk (Kd.R_below (by (with_reducible repeat (first | apply Kd.R_alloc | apply Kd.R_drewN | apply Kd.R_drew)); exact HOx2.out) hb); clear HOx2; have HOx2 := n_; clear n_
  have n_ := Aside0.mk (Kd.R_below (by (with_reducible repeat (first | apply Kd.R_alloc | apply Kd.R_drewN | apply Kd.R_drew)); exact HOg0.out) hb); clear HOg0; have HOg0 := n_; clear n_
  have n_ := Aside0.mk (Kd.R_below (by (with_reducible repeat (first | apply Kd.R_alloc | apply Kd.R_drewN | apply Kd.R_drew)); exact HOg1.out) hb); clear HOg1; have HOg1 := n_; clear n_
  have HB19 := Aside0.mk (below_step (by repeat (first | (with_reducible first | exact HB18.out | apply below_alloc | apply pw_below_drewN | apply below_drew1) | exact HB18.out)) hb)
  have SZ19 := Aside0.mk (show w18.heap.size ≤ w19.heap.size from below_size (below_step (by repeat (first | (with_reducible first | exact Below.refl _ _ | apply below_alloc | apply pw_below_drewN | apply below_drew1) | exact Below.refl _ _)) hb))
  clear hb
  go_wp2_with fail
  refine calls_of_args (args' := #[.slice Arg1 UX9.length crg1, .int .i64 mX8]) (by rw [VX9.out]) ?_
  refine (laws_heldIntS.calls kX11 _ _ UX9 mX8 _ _ (by repeat (first | exact (Kd.R_reads' HOg1.out).2.2 | (with_reducible refine Kd.C_alloc ?_ _) | (with_reducible refine Kd.C_drewN ?_ _) | (with_reducible refine Kd.C_drew ?_))) (by rw [VX9.out]; exact (Kd.R_reads' HOg1.out).2.1) X11.out).mono ?_
  rintro e w20 ⟨rfl, hb0⟩
  have hb := Drawn0.below hb0
  clear hb0
  have n_ := Aside0.mk (Kd.R_below (by (with_reducible repeat (first | apply Kd.R_alloc | apply Kd.R_drewN | apply Kd.R_drew)); exact HOw0.out) hb); clear HOw0; have HOw0 := n_; clear n_
  have n_ := Aside0.mk (Kd.R_below (by (with_reducible repeat (first | apply Kd.R_alloc | apply Kd.R_drewN | apply Kd.R_drew)); exact HOw1.out) hb); clear HOw1; have HOw1 := n_; clear n_
  have n_ := Aside0.mk (Kd.R_below (by (with_reducible repeat (first | apply Kd.R_alloc | apply Kd.R_drewN | apply Kd.R_drew)); exact HOx0.out) hb); clear HOx0; have HOx0 := n_; clear n_
  have n_ := Aside0.mk (Kd.R_below (by (with_reducible repeat (first | apply Kd.R_alloc | apply Kd.R_drewN | apply Kd.R_drew)); exact HOx2.out) hb); clear HOx2; have HOx2 := n_; clear n_
  have n_ := Aside0.mk (Kd.R_below (by (with_reducible repeat (first | apply Kd.R_alloc | apply Kd.R_drewN | apply Kd.R_drew)); exact HOg0.out) hb); clear HOg0; have HOg0 := n_; clear n_
  have n_ := Aside0.mk (Kd.R_below (by (with_reducible repeat (first | apply Kd.R_alloc | apply Kd.R_drewN | apply Kd.R_drew)); exact HOg1.out) hb); clear HOg1; have HOg1 := n_; clear n_
  have HB20 := Aside0.mk (below_step (by repeat (first | (with_reducible first | exact HB19.out | apply below_alloc | apply pw_below_drewN | apply below_drew1) | exact HB19.out)) hb)
  have SZ20 := Aside0.mk (show w19.heap.size ≤ w20.heap.size from below_size (below_step (by repeat (first | (with_reducible first | exact Below.refl _ _ | apply below_alloc | apply pw_below_drewN | apply below_drew1) | exact Below.refl _ _)) hb))
  clear hb
  go_wp2_with fail
  refine (laws_toClaimS.calls kX0 _ _ l0 _ _ (by repeat (first | exact (Kd.C_below HR0.out HB20.out) | (with_reducible refine Kd.C_alloc ?_ _) | (with_reducible refine Kd.C_drewN ?_ _) | (with_reducible refine Kd.C_drew ?_))) HC0.out X0.out).mono ?_
  rintro e w21 ⟨v, rfl, ho, hb⟩
  have n_ := Aside0.mk (Kd.R_below (by (with_reducible repeat (first | apply Kd.R_alloc | apply Kd.R_drewN | apply Kd.R_drew)); exact HOw0.out) hb); clear HOw0; have HOw0 := n_; clear n_
  have n_ := Aside0.mk (Kd.R_below (by (with_reducible repeat (first | apply Kd.R_alloc | apply Kd.R_drewN | apply Kd.R_drew)); exact HOw1.out) hb); clear HOw1; have HOw1 := n_; clear n_
  have n_ := Aside0.mk (Kd.R_below (by (with_reducible repeat (first | apply Kd.R_alloc | apply Kd.R_drewN | apply Kd.R_drew)); exact HOx0.out) hb); clear HOx0; have HOx0 := n_; clear n_
  have n_ := Aside0.mk (Kd.R_below (by (with_reducible repeat (first | apply Kd.R_alloc | apply Kd.R_drewN | apply Kd.R_drew)); exact HOx2.out) hb); clear HOx2; have HOx2 := n_; clear n_
  have n_ := Aside0.mk (Kd.R_below (by (with_reducible repeat (first | apply Kd.R_alloc | apply Kd.R_drewN | apply Kd.R_drew)); exact HOg0.out) hb); clear HOg0; have HOg0 := n_; clear n_
  have n_ := Aside0.mk (Kd.R_below (by (with_reducible repeat (first | apply Kd.R_alloc | apply Kd.R_drewN | apply Kd.R_drew)); exact HOg1.out) hb); clear HOg1; have HOg1 := n_; clear n_
  have HB21 := Aside0.mk (below_step (by repeat (first | (with_reducible first | exact HB20.out | apply below_alloc | apply pw_below_drewN | apply below_drew1) | exact HB20.out)) hb)
  have SZ21 := Aside0.mk (show w20.heap.size ≤ w21.heap.size from below_size (below_step (by repeat (first | (with_reducible first | exact Below.refl _ _ | apply below_alloc | apply pw_below_drewN | apply below_drew1) | exact Below.refl _ _)) hb))
  have HOt5 := Aside0.mk (R_ivw (a := w20.heap.size) (b := w.heap.size) ho (below_size (by repeat (first | (with_reducible first | exact Below.refl _ _ | apply below_alloc | apply pw_below_drewN | apply below_drew1) | exact Below.refl _ _))) (below_size (by repeat (first | (with_reducible first | exact HB20.out | apply below_alloc | apply pw_below_drewN | apply below_drew1) | exact HB20.out))))
  obtain ⟨Art5, crt5, ert5⟩ := Kd.R_slice HOt5.out
  subst ert5
  clear ho hb
  go_wp2_with fail
  refine (laws_toIntS.calls kX1 _ _ l2 _ _ (by repeat (first | exact (Kd.C_below HR2.out HB21.out) | (with_reducible refine Kd.C_alloc ?_ _) | (with_reducible refine Kd.C_drewN ?_ _) | (with_reducible refine Kd.C_drew ?_))) HC2.out X1.out).mono ?_
  rintro e w22 ⟨v, rfl, ho, hb⟩
  have n_ := Aside0.mk (Kd.R_below (by (with_reducible repeat (first | apply Kd.R_alloc | apply Kd.R_drewN | apply Kd.R_drew)); exact HOw0.out) hb); clear HOw0; have HOw0 := n_; clear n_
  have n_ := Aside0.mk (Kd.R_below (by (with_reducible repeat (first | apply Kd.R_alloc | apply Kd.R_drewN | apply Kd.R_drew)); exact HOw1.out) hb); clear HOw1; have HOw1 := n_; clear n_
  have n_ := Aside0.mk (Kd.R_below (by (with_reducible repeat (first | apply Kd.R_alloc | apply Kd.R_drewN | apply Kd.R_drew)); exact HOx0.out) hb); clear HOx0; have HOx0 := n_; clear n_
  have n_ := Aside0.mk (Kd.R_below (by (with_reducible repeat (first | apply Kd.R_alloc | apply Kd.R_drewN | apply Kd.R_drew)); exact HOx2.out) hb); clear HOx2; have HOx2 := n_; clear n_
  have n_ := Aside0.mk (Kd.R_below (by (with_reducible repeat (first | apply Kd.R_alloc | apply Kd.R_drewN | apply Kd.R_drew)); exact HOg0.out) hb); clear HOg0; have HOg0 := n_; clear n_
  have n_ := Aside0.mk (Kd.R_below (by (with_reducible repeat (first | apply Kd.R_alloc | apply Kd.R_drewN | apply Kd.R_drew)); exact HOg1.out) hb); clear HOg1; have HOg1 := n_; clear n_
  have n_ := Aside0.mk (Kd.R_below (by (with_reducible repeat (first | apply Kd.R_alloc | apply Kd.R_drewN | apply Kd.R_drew)); exact HOt5.out) hb); clear HOt5; have HOt5 := n_; clear n_
  have HB22 := Aside0.mk (below_step (by repeat (first | (with_reducible first | exact HB21.out | apply below_alloc | apply pw_below_drewN | apply below_drew1) | exact HB21.out)) hb)
  have SZ22 := Aside0.mk (show w21.heap.size ≤ w22.heap.size from below_size (below_step (by repeat (first | (with_reducible first | exact Below.refl _ _ | apply below_alloc | apply pw_below_drewN | apply below_drew1) | exact Below.refl _ _)) hb))
  have HOt6 := Aside0.mk (R_ivw (a := w21.heap.size) (b := w.heap.size) ho (below_size (by repeat (first | (with_reducible first | exact Below.refl _ _ | apply below_alloc | apply pw_below_drewN | apply below_drew1) | exact Below.refl _ _))) (below_size (by repeat (first | (with_reducible first | exact HB21.out | apply below_alloc | apply pw_below_drewN | apply below_drew1) | exact HB21.out))))
  obtain ⟨Art6, crt6, ert6⟩ := Kd.R_slice HOt6.out
  subst ert6
  clear ho hb
  go_wp2_with fail
  refine (impl_c _ _ L0 a1 _ _ l2 _ (by repeat (first | exact (Kd.R_reads' HOt5.out).2.2 | (with_reducible refine Kd.C_alloc ?_ _) | (with_reducible refine Kd.C_drewN ?_ _) | (with_reducible refine Kd.C_drew ?_))) (Kd.R_reads' HOt5.out).2.1 (fun hp => R_head HOt5.out hp) hv0 (by repeat (first | exact (Kd.R_reads' HOt6.out).2.2 | (with_reducible refine Kd.C_alloc ?_ _) | (with_reducible refine Kd.C_drewN ?_ _) | (with_reducible refine Kd.C_drew ?_))) (Kd.R_reads' HOt6.out).2.1 (fun hp => R_head HOt6.out hp) hv2 ).mono ?_
  rintro e w23 ⟨v1, v2, rfl, ho1, ho2, hs, hb⟩
  have n_ := Aside0.mk (Kd.R_below (by (with_reducible repeat (first | apply Kd.R_alloc | apply Kd.R_drewN | apply Kd.R_drew)); exact HOw0.out) hb); clear HOw0; have HOw0 := n_; clear n_
  have n_ := Aside0.mk (Kd.R_below (by (with_reducible repeat (first | apply Kd.R_alloc | apply Kd.R_drewN | apply Kd.R_drew)); exact HOw1.out) hb); clear HOw1; have HOw1 := n_; clear n_
  have n_ := Aside0.mk (Kd.R_below (by (with_reducible repeat (first | apply Kd.R_alloc | apply Kd.R_drewN | apply Kd.R_drew)); exact HOx0.out) hb); clear HOx0; have HOx0 := n_; clear n_
  have n_ := Aside0.mk (Kd.R_below (by (with_reducible repeat (first | apply Kd.R_alloc | apply Kd.R_drewN | apply Kd.R_drew)); exact HOx2.out) hb); clear HOx2; have HOx2 := n_; clear n_
  have n_ := Aside0.mk (Kd.R_below (by (with_reducible repeat (first | apply Kd.R_alloc | apply Kd.R_drewN | apply Kd.R_drew)); exact HOg0.out) hb); clear HOg0; have HOg0 := n_; clear n_
  have n_ := Aside0.mk (Kd.R_below (by (with_reducible repeat (first | apply Kd.R_alloc | apply Kd.R_drewN | apply Kd.R_drew)); exact HOg1.out) hb); clear HOg1; have HOg1 := n_; clear n_
  have n_ := Aside0.mk (Kd.R_below (by (with_reducible repeat (first | apply Kd.R_alloc | apply Kd.R_drewN | apply Kd.R_drew)); exact HOt5.out) hb); clear HOt5; have HOt5 := n_; clear n_
  have n_ := Aside0.mk (Kd.R_below (by (with_reducible repeat (first | apply Kd.R_alloc | apply Kd.R_drewN | apply Kd.R_drew)); exact HOt6.out) hb); clear HOt6; have HOt6 := n_; clear n_
  have HB23 := Aside0.mk (below_step (by repeat (first | (with_reducible first | exact HB22.out | apply below_alloc | apply pw_below_drewN | apply below_drew1) | exact HB22.out)) hb)
  have SZ23 := Aside0.mk (show w22.heap.size ≤ w23.heap.size from below_size (below_step (by repeat (first | (with_reducible first | exact Below.refl _ _ | apply below_alloc | apply pw_below_drewN | apply below_drew1) | exact Below.refl _ _)) hb))
  have HOh0 := Aside0.mk (R_ivp (a := w22.heap.size) (b := w.heap.size) ho1 (below_size (by repeat (first | (with_reducible first | exact Below.refl _ _ | apply below_alloc | apply pw_below_drewN | apply below_drew1) | exact Below.refl _ _))) (below_size (by repeat (first | (with_reducible first | exact HB22.out | apply below_alloc | apply pw_below_drewN | apply below_drew1) | exact HB22.out))))
  obtain ⟨Arh0, crh0, erh0⟩ := Kd.R_slice HOh0.out
  subst erh0
  have HOh1 := Aside0.mk (R_ivp (a := w22.heap.size) (b := w.heap.size) ho2 (below_size (by repeat (first | (with_reducible first | exact Below.refl _ _ | apply below_alloc | apply pw_below_drewN | apply below_drew1) | exact Below.refl _ _))) (below_size (by repeat (first | (with_reducible first | exact HB22.out | apply below_alloc | apply pw_below_drewN | apply below_drew1) | exact HB22.out))))
  obtain ⟨Arh1, crh1, erh1⟩ := Kd.R_slice HOh1.out
  subst erh1
  have HS23 := Aside0.mk hs
  clear ho1 ho2 hs hb
  go_wp2_with fail
  refine (laws_eqIntS.calls kX2 _ _ (setA L0 a1 l2).1 _ _ (setA L0 a1 l2).1 true _ (by repeat (first | exact (Kd.R_reads' HOh0.out).2.2 | (with_reducible refine Kd.C_alloc ?_ _) | (with_reducible refine Kd.C_drewN ?_ _) | (with_reducible refine Kd.C_drew ?_))) (Kd.R_reads' HOh0.out).2.1 (by repeat (first | exact (Kd.R_reads' HOw0.out).2.2 | (with_reducible refine Kd.C_alloc ?_ _) | (with_reducible refine Kd.C_drewN ?_ _) | (with_reducible refine Kd.C_drew ?_))) (Kd.R_reads' HOw0.out).2.1 X2.out).mono ?_
  rintro e w24 ⟨rfl, hb0⟩
  have hb := Drawn0.below hb0
  clear hb0
  have n_ := Aside0.mk (Kd.R_below (by (with_reducible repeat (first | apply Kd.R_alloc | apply Kd.R_drewN | apply Kd.R_drew)); exact HOw0.out) hb); clear HOw0; have HOw0 := n_; clear n_
  have n_ := Aside0.mk (Kd.R_below (by (with_reducible repeat (first | apply Kd.R_alloc | apply Kd.R_drewN | apply Kd.R_drew)); exact HOw1.out) hb); clear HOw1; have HOw1 := n_; clear n_
  have n_ := Aside0.mk (Kd.R_below (by (with_reducible repeat (first | apply Kd.R_alloc | apply Kd.R_drewN | apply Kd.R_drew)); exact HOx0.out) hb); clear HOx0; have HOx0 := n_; clear n_
  have n_ := Aside0.mk (Kd.R_below (by (with_reducible repeat (first | apply Kd.R_alloc | apply Kd.R_drewN | apply Kd.R_drew)); exact HOx2.out) hb); clear HOx2; have HOx2 := n_; clear n_
  have n_ := Aside0.mk (Kd.R_below (by (with_reducible repeat (first | apply Kd.R_alloc | apply Kd.R_drewN | apply Kd.R_drew)); exact HOg0.out) hb); clear HOg0; have HOg0 := n_; clear n_
  have n_ := Aside0.mk (Kd.R_below (by (with_reducible repeat (first | apply Kd.R_alloc | apply Kd.R_drewN | apply Kd.R_drew)); exact HOg1.out) hb); clear HOg1; have HOg1 := n_; clear n_
  have n_ := Aside0.mk (Kd.R_below (by (with_reducible repeat (first | apply Kd.R_alloc | apply Kd.R_drewN | apply Kd.R_drew)); exact HOh0.out) hb); clear HOh0; have HOh0 := n_; clear n_
  have n_ := Aside0.mk (Kd.R_below (by (with_reducible repeat (first | apply Kd.R_alloc | apply Kd.R_drewN | apply Kd.R_drew)); exact HOh1.out) hb); clear HOh1; have HOh1 := n_; clear n_
  have HB24 := Aside0.mk (below_step (by repeat (first | (with_reducible first | exact HB23.out | apply below_alloc | apply pw_below_drewN | apply below_drew1) | exact HB23.out)) hb)
  have SZ24 := Aside0.mk (show w23.heap.size ≤ w24.heap.size from below_size (below_step (by repeat (first | (with_reducible first | exact Below.refl _ _ | apply below_alloc | apply pw_below_drewN | apply below_drew1) | exact Below.refl _ _)) hb))
  clear hb
  go_wp2_with fail
  refine (laws_eqIntS.calls kX3 _ _ (setA L0 a1 l2).2.1 _ _ (setA L0 a1 l2).2.1 true _ (by repeat (first | exact (Kd.R_reads' HOh1.out).2.2 | (with_reducible refine Kd.C_alloc ?_ _) | (with_reducible refine Kd.C_drewN ?_ _) | (with_reducible refine Kd.C_drew ?_))) (Kd.R_reads' HOh1.out).2.1 (by repeat (first | exact (Kd.R_reads' HOw1.out).2.2 | (with_reducible refine Kd.C_alloc ?_ _) | (with_reducible refine Kd.C_drewN ?_ _) | (with_reducible refine Kd.C_drew ?_))) (Kd.R_reads' HOw1.out).2.1 X3.out).mono ?_
  rintro e w25 ⟨rfl, hb0⟩
  have hb := Drawn0.below hb0
  clear hb0
  have n_ := Aside0.mk (Kd.R_below (by (with_reducible repeat (first | apply Kd.R_alloc | apply Kd.R_drewN | apply Kd.R_drew)); exact HOw0.out) hb); clear HOw0; have HOw0 := n_; clear n_
  have n_ := Aside0.mk (Kd.R_below (by (with_reducible repeat (first | apply Kd.R_alloc | apply Kd.R_drewN | apply Kd.R_drew)); exact HOw1.out) hb); clear HOw1; have HOw1 := n_; clear n_
  have n_ := Aside0.mk (Kd.R_below (by (with_reducible repeat (first | apply Kd.R_alloc | apply Kd.R_drewN | apply Kd.R_drew)); exact HOx0.out) hb); clear HOx0; have HOx0 := n_; clear n_
  have n_ := Aside0.mk (Kd.R_below (by (with_reducible repeat (first | apply Kd.R_alloc | apply Kd.R_drewN | apply Kd.R_drew)); exact HOx2.out) hb); clear HOx2; have HOx2 := n_; clear n_
  have n_ := Aside0.mk (Kd.R_below (by (with_reducible repeat (first | apply Kd.R_alloc | apply Kd.R_drewN | apply Kd.R_drew)); exact HOg0.out) hb); clear HOg0; have HOg0 := n_; clear n_
  have n_ := Aside0.mk (Kd.R_below (by (with_reducible repeat (first | apply Kd.R_alloc | apply Kd.R_drewN | apply Kd.R_drew)); exact HOg1.out) hb); clear HOg1; have HOg1 := n_; clear n_
  have n_ := Aside0.mk (Kd.R_below (by (with_reducible repeat (first | apply Kd.R_alloc | apply Kd.R_drewN | apply Kd.R_drew)); exact HOh0.out) hb); clear HOh0; have HOh0 := n_; clear n_
  have n_ := Aside0.mk (Kd.R_below (by (with_reducible repeat (first | apply Kd.R_alloc | apply Kd.R_drewN | apply Kd.R_drew)); exact HOh1.out) hb); clear HOh1; have HOh1 := n_; clear n_
  have HB25 := Aside0.mk (below_step (by repeat (first | (with_reducible first | exact HB24.out | apply below_alloc | apply pw_below_drewN | apply below_drew1) | exact HB24.out)) hb)
  have SZ25 := Aside0.mk (show w24.heap.size ≤ w25.heap.size from below_size (below_step (by repeat (first | (with_reducible first | exact Below.refl _ _ | apply below_alloc | apply pw_below_drewN | apply below_drew1) | exact Below.refl _ _)) hb))
  clear hb
  go_wp2_with fail
  refine calls_of_args (args' := #[.slice Arg0 UX8.length crg0, .int .i64 1]) (by rw [VX8.out]) ?_
  refine (laws_heldIntS.calls kX10 _ _ UX8 1 _ _ (by repeat (first | exact (Kd.R_reads' HOg0.out).2.2 | (with_reducible refine Kd.C_alloc ?_ _) | (with_reducible refine Kd.C_drewN ?_ _) | (with_reducible refine Kd.C_drew ?_))) (by rw [VX8.out]; exact (Kd.R_reads' HOg0.out).2.1) X10.out).mono ?_
  rintro e w26 ⟨rfl, hb0⟩
  have hb := Drawn0.below hb0
  clear hb0
  have n_ := Aside0.mk (Kd.R_below (by (with_reducible repeat (first | apply Kd.R_alloc | apply Kd.R_drewN | apply Kd.R_drew)); exact HOw0.out) hb); clear HOw0; have HOw0 := n_; clear n_
  have n_ := Aside0.mk (Kd.R_below (by (with_reducible repeat (first | apply Kd.R_alloc | apply Kd.R_drewN | apply Kd.R_drew)); exact HOw1.out) hb); clear HOw1; have HOw1 := n_; clear n_
  have n_ := Aside0.mk (Kd.R_below (by (with_reducible repeat (first | apply Kd.R_alloc | apply Kd.R_drewN | apply Kd.R_drew)); exact HOx0.out) hb); clear HOx0; have HOx0 := n_; clear n_
  have n_ := Aside0.mk (Kd.R_below (by (with_reducible repeat (first | apply Kd.R_alloc | apply Kd.R_drewN | apply Kd.R_drew)); exact HOx2.out) hb); clear HOx2; have HOx2 := n_; clear n_
  have n_ := Aside0.mk (Kd.R_below (by (with_reducible repeat (first | apply Kd.R_alloc | apply Kd.R_drewN | apply Kd.R_drew)); exact HOg0.out) hb); clear HOg0; have HOg0 := n_; clear n_
  have n_ := Aside0.mk (Kd.R_below (by (with_reducible repeat (first | apply Kd.R_alloc | apply Kd.R_drewN | apply Kd.R_drew)); exact HOg1.out) hb); clear HOg1; have HOg1 := n_; clear n_
  have n_ := Aside0.mk (Kd.R_below (by (with_reducible repeat (first | apply Kd.R_alloc | apply Kd.R_drewN | apply Kd.R_drew)); exact HOh0.out) hb); clear HOh0; have HOh0 := n_; clear n_
  have n_ := Aside0.mk (Kd.R_below (by (with_reducible repeat (first | apply Kd.R_alloc | apply Kd.R_drewN | apply Kd.R_drew)); exact HOh1.out) hb); clear HOh1; have HOh1 := n_; clear n_
  have HB26 := Aside0.mk (below_step (by repeat (first | (with_reducible first | exact HB25.out | apply below_alloc | apply pw_below_drewN | apply below_drew1) | exact HB25.out)) hb)
  have SZ26 := Aside0.mk (show w25.heap.size ≤ w26.heap.size from below_size (below_step (by repeat (first | (with_reducible first | exact Below.refl _ _ | apply below_alloc | apply pw_below_drewN | apply below_drew1) | exact Below.refl _ _)) hb))
  clear hb
  go_wp2_with fail
  refine calls_of_args (args' := #[.slice Arg1 UX9.length crg1, .int .i64 mX8]) (by rw [VX9.out]) ?_
  refine (laws_heldIntS.calls kX11 _ _ UX9 mX8 _ _ (by repeat (first | exact (Kd.R_reads' HOg1.out).2.2 | (with_reducible refine Kd.C_alloc ?_ _) | (with_reducible refine Kd.C_drewN ?_ _) | (with_reducible refine Kd.C_drew ?_))) (by rw [VX9.out]; exact (Kd.R_reads' HOg1.out).2.1) X11.out).mono ?_
  rintro e w27 ⟨rfl, hb0⟩
  have hb := Drawn0.below hb0
  clear hb0
  have n_ := Aside0.mk (Kd.R_below (by (with_reducible repeat (first | apply Kd.R_alloc | apply Kd.R_drewN | apply Kd.R_drew)); exact HOw0.out) hb); clear HOw0; have HOw0 := n_; clear n_
  have n_ := Aside0.mk (Kd.R_below (by (with_reducible repeat (first | apply Kd.R_alloc | apply Kd.R_drewN | apply Kd.R_drew)); exact HOw1.out) hb); clear HOw1; have HOw1 := n_; clear n_
  have n_ := Aside0.mk (Kd.R_below (by (with_reducible repeat (first | apply Kd.R_alloc | apply Kd.R_drewN | apply Kd.R_drew)); exact HOx0.out) hb); clear HOx0; have HOx0 := n_; clear n_
  have n_ := Aside0.mk (Kd.R_below (by (with_reducible repeat (first | apply Kd.R_alloc | apply Kd.R_drewN | apply Kd.R_drew)); exact HOx2.out) hb); clear HOx2; have HOx2 := n_; clear n_
  have n_ := Aside0.mk (Kd.R_below (by (with_reducible repeat (first | apply Kd.R_alloc | apply Kd.R_drewN | apply Kd.R_drew)); exact HOg0.out) hb); clear HOg0; have HOg0 := n_; clear n_
  have n_ := Aside0.mk (Kd.R_below (by (with_reducible repeat (first | apply Kd.R_alloc | apply Kd.R_drewN | apply Kd.R_drew)); exact HOg1.out) hb); clear HOg1; have HOg1 := n_; clear n_
  have n_ := Aside0.mk (Kd.R_below (by (with_reducible repeat (first | apply Kd.R_alloc | apply Kd.R_drewN | apply Kd.R_drew)); exact HOh0.out) hb); clear HOh0; have HOh0 := n_; clear n_
  have n_ := Aside0.mk (Kd.R_below (by (with_reducible repeat (first | apply Kd.R_alloc | apply Kd.R_drewN | apply Kd.R_drew)); exact HOh1.out) hb); clear HOh1; have HOh1 := n_; clear n_
  have HB27 := Aside0.mk (below_step (by repeat (first | (with_reducible first | exact HB26.out | apply below_alloc | apply pw_below_drewN | apply below_drew1) | exact HB26.out)) hb)
  have SZ27 := Aside0.mk (show w26.heap.size ≤ w27.heap.size from below_size (below_step (by repeat (first | (with_reducible first | exact Below.refl _ _ | apply below_alloc | apply pw_below_drewN | apply below_drew1) | exact Below.refl _ _)) hb))
  clear hb
  go_wp2
  go_ret
  exact ⟨rfl, (by repeat (first | (with_reducible first | exact HB27.out | apply below_alloc | apply pw_below_drewN | apply below_drew1) | exact HB27.out))⟩
end Go.Proofs.Ytaobdjdmmhglaaa.O
