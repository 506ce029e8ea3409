/- Walks of our own, a part of those for the law FnExactRunWaterfall: each function's contract in plain Lean. No condition beyond the bounds that each contract names. -/
import Derived.Test.YtbnhpkkkijjkkaaPureFnExactRunWaterfall
import Derived.Shelf.SlicesE.IndexFunc
import Derived.Shelf.Slices.Clone
import Derived.Shelf.Slices.Turned
import Derived.Sort.LotA
import Derived.Shelf.SlSortCmp.Insertion1
import Derived.Shelf.SlLaysH
import Derived.Shelf.Lays2
import Derived.Shelf.Lays
import Derived.Shelf.SlLaysF
namespace Go.Proofs.Ytbnhpkkkijjkkaa.O
open Go.RowKit Go.Proofs.YtbnhpkkkijjkkaaW.PrintWords Go.Proofs.YtbnhpkkkijjkkaaW.PrintLast Go.Proofs.YtbnhpkkkijjkkaaW.PrintMore Go.Proofs.Ytbnhpkkkijjkkaa.PL18D Go.Proofs.Ytbnhpkkkijjkkaa.EvKit Go.Proofs.Ytbnhpkkkijjkkaa.Pure
set_option linter.unusedVariables false
set_option linter.unusedSimpArgs false
attribute [local go_sem] max2_int min2_int max_two min_two max_three min_three max_four min_four
theorem am_ {p : Prop} (h : p) : Aside0 p := ⟨h⟩
theorem db_ {w w' : World} (h : Drawn0 w w') : Below w.heap.size w w' := Drawn0.below h
/-- A number of rounds at which a printed function answers. -/
theorem roundsOf {α : Type} {g : Nat → Option α} {r : α} (h : Ev g r) : ∃ k, g k = some r := Ev.rounds h
theorem cellsOf {w : World} {b o : Nat} {xs : List Int} (h : (Kd.int .i64).C w (some ⟨b, o, none⟩) xs.length xs) : ∀ j, j < xs.length → w.cell? ⟨b, o + j, none⟩ = some (.int .i64 xs[j]!) := by
  intro j hj
  obtain ⟨ad, e, hc⟩ := Kd.at_int h (j : Int) (by omega) (by omega)
  injection e with e
  subst e
  rw [add_at] at hc
  rw [Int.toNat_natCast] at hc
  rw [hc, rd, Int.toNat_natCast, List.getD_eq_getElem?_getD, List.getElem?_eq_getElem hj, List.getElem!_eq_getElem?_getD, List.getElem?_eq_getElem hj]
  rfl
/-- Between two numbers. -/
def Iv (a b : Nat) (k : Nat) : Prop := a ≤ k ∧ k < b
theorem R_iv {α : Type} {d : Kd α} {e base : Nat} {ok : Nat → Prop} {w : World} {v : Value} {xs : List α} (h : d.R e w base ok v xs) : d.R e w base (Iv base w.heap.size) v xs := Kd.R_mono (Kd.R_bound h) (fun _ hk => ⟨hk.2.1, hk.2.2.1⟩)
/-- Where a row of one's own that is not empty begins. -/
theorem R_head {α : Type} {d : Kd α} {e base : Nat} {ok : Nat → Prop} {w : World} {A : Option Addr} {n c : Nat} {xs : List α} (h : d.R e w base ok (.slice A n c) xs) (hp : 0 < xs.length) : ∃ b, A = some ⟨b, 0, none⟩ := by
  obtain ⟨g, cap, e1, _⟩ := Kd.R_form h hp
  injection e1 with e1
  exact ⟨g, e1⟩
theorem R_ivw {α : Type} {d : Kd α} {e base a b : Nat} {ok : Nat → Prop} {w : World} {v : Value} {xs : List α} (h : d.R e w base ok v xs) (ha : a ≤ base) (hb : b ≤ base) : d.R e w b (Iv a w.heap.size) v xs := Kd.R_lower (Kd.R_mono (Kd.R_bound h) (fun _ hk => ⟨Nat.le_trans ha hk.2.1, hk.2.2.1⟩)) hb
/-- A row whose elements hold no rows lies in its own block alone. -/
theorem R_flat {α : Type} {d : Kd α} {e base : Nat} {ok ok' : Nat → Prop} {w : World} {v : Value} {xs : List α} (hf : ∀ (w : World) (b : Nat) (p q : Nat → Prop) x cs, d.M w b p x cs → d.M w b q x cs) (h : d.R e w base ok v xs) (h0 : ∀ k, v.ownBlock = some k → ok' k) : d.R e w base ok' v xs := ⟨h0, h.2.imp_ (fun _ _ hp => hf _ _ _ _ _ _ hp)⟩
theorem flat_int (w : World) (b : Nat) (p q : Nat → Prop) (x : Int) (cs : List Value) (h : (Kd.int .i64).M w b p x cs) : (Kd.int .i64).M w b q x cs := h
theorem cellsOfD {w : World} {b o m : Nat} {xs : List Int} (h : (Kd.int .i64).C w (some ⟨b, o, none⟩) m xs) : ∀ j, j < xs.length → w.cell? ⟨b, o + j, none⟩ = some (.int .i64 (xs.getD j 0)) := by
  intro j hj
  have hl := Kd.C_len h
  obtain ⟨ad, e, hc⟩ := Kd.at_int h (j : Int) (by omega) (by omega)
  injection e with e
  subst e
  rw [add_at, Int.toNat_natCast] at hc
  exact hc
theorem R_C {α : Type} {d : Kd α} {e base : Nat} {ok : Nat → Prop} {w : World} {A : Option Addr} {n c : Nat} {xs : List α} (h : d.R e w base ok (.slice A n c) xs) : d.C w A n xs := by
  obtain ⟨rfl, _, hc⟩ := Kd.R_reads' h
  exact hc
theorem R_cap {α : Type} {d : Kd α} {e base : Nat} {ok : Nat → Prop} {w : World} {A : Option Addr} {n c : Nat} {xs : List α} (h : d.R e w base ok (.slice A n c) xs) : n ≤ c := (Kd.R_reads' h).2.1
theorem R_same {α : Type} {d : Kd α} {e base : Nat} {ok : Nat → Prop} {w w1 : World} {v : Value} {xs : List α} (h : d.R e w base ok v xs) (hg : w.grownBy w1 none) : d.R e w1 base ok v xs := Kd.R_grown h hg (fun _ _ e => by cases e)
theorem R_block {α : Type} {d : Kd α} {e base g n c : Nat} {ok : Nat → Prop} {w : World} {xs : List α} (h : d.R e w base ok (.slice (some ⟨g, 0, none⟩) n c) xs) (hp : 0 < n) : ∃ cells, w.heap[g]? = some (.cells cells e (0, 0)) := by
  obtain ⟨e1, _, _⟩ := Kd.R_reads' h
  obtain ⟨g', cap, e2, _, _, cells, h3⟩ := Kd.R_form h (by omega)
  injection e2 with e2 _ _
  injection e2 with e2
  injection e2 with e2
  subst e2
  exact ⟨cells, h3⟩
theorem ba_ {w W : World} (h : Below w.heap.size w W) (o : Obj) : Below w.heap.size w (W.alloc o) := below_alloc h o
theorem bn_ {B : Nat} {w W : World} (h : Below B w W) (n : Nat) : Below B w (W.drewN n) := pw_below_drewN h n
theorem bd_ {B : Nat} {w W : World} (h : Below B w W) : Below B w W.drew := below_drew1 h
theorem ca_ {α : Type} {d : Kd α} {w : World} {xs : List α} {A : Option Addr} {n : Nat} (h : d.C w A n xs) (o : Obj) : d.C (w.alloc o) A n xs := Kd.C_alloc h o
theorem cn_ {α : Type} {d : Kd α} {w : World} {xs : List α} {A : Option Addr} {n : Nat} (h : d.C w A n xs) (m : Nat) : d.C (w.drewN m) A n xs := Kd.C_drewN h m
theorem cd_ {α : Type} {d : Kd α} {w : World} {xs : List α} {A : Option Addr} {n : Nat} (h : d.C w A n xs) : d.C w.drew A n xs := Kd.C_drew h
theorem ra_ {α : Type} {d : Kd α} {w : World} {xs : List α} {e : TypeId} {base : Nat} {ok : Nat → Prop} {v : Value} (h : d.R e w base ok v xs) (o : Obj) : d.R e (w.alloc o) base ok v xs := Kd.R_alloc h o
theorem rn_ {α : Type} {d : Kd α} {w : World} {xs : List α} {e : TypeId} {base : Nat} {ok : Nat → Prop} {v : Value} (h : d.R e w base ok v xs) (m : Nat) : d.R e (w.drewN m) base ok v xs := Kd.R_drewN h m
theorem rd_ {α : Type} {d : Kd α} {w : World} {xs : List α} {e : TypeId} {base : Nat} {ok : Nat → Prop} {v : Value} (h : d.R e w base ok v xs) : d.R e w.drew base ok v xs := Kd.R_drew h
theorem ka_ {w : World} {g : Nat} {o : Obj} (h : w.heap[g]? = some o) (o' : Obj) : (w.alloc o').heap[g]? = some o := blk_alloc h o'
theorem kd_ {w : World} {g : Nat} {o : Obj} (h : w.heap[g]? = some o) : w.drew.heap[g]? = some o := blk_drew h
theorem kn_ {w : World} {g : Nat} {o : Obj} (h : w.heap[g]? = some o) (n : Nat) : (w.drewN n).heap[g]? = some o := blk_drewN h n
theorem kf_ {w : World} {g : Nat} {t : TypeId} {cs : Array Value} (h : w.heap[g]? = some (.cells cs t (0, 0))) {p : Addr} (hp : g ≠ p.block) (u : Value) : (w.setCell p u).heap[g]? = some (.cells cs t (0, 0)) := blk_far h hp u
def Lcf_ren : Go.Shelf.Ren := ⟨fun | 6 => 98 | 8 => 81 | n => n, fun | 22 => 51 | 23 => 3 | 25 => 72 | n => n, fun | n => n⟩
theorem Lcf : Go.Proofs.SlLaysH.n8 Try.prog Lcf_ren := {
  mixed := by kernel_rfl,
  f6 := ⟨Try.f98.name, by decide, Try.func98.trans (congrArg some (by kernel_rfl))⟩,
  f8 := ⟨Try.f81.name, by decide, Try.func81.trans (congrArg some (by kernel_rfl))⟩,
  t0 := Try.underlying0,
  a0 := Try.isAgg0,
  z0 := Try.sizeOf0,
  v0 := Try.zeroValue0,
  t3 := Try.underlying3,
  a3 := Try.isAgg3,
  z3 := Try.sizeOf3,
  v3 := Try.zeroValue3,
  t4 := Try.underlying4,
  a4 := Try.isAgg4,
  z4 := Try.sizeOf4,
  v4 := Try.zeroValue4,
  t22 := Try.underlying51,
  a22 := Try.isAgg51,
  z22 := Try.sizeOf51,
  v22 := Try.zeroValue51,
  a23 := Try.isAgg3,
  z23 := Try.sizeOf3,
  t25 := Try.underlying72,
  a25 := Try.isAgg72,
  z25 := Try.sizeOf72,
  v25 := Try.zeroValue72 }

/-- slices.ContainsFunc over a row of whole numbers, a predicate given. -/
theorem containsFunc_c (g : Nat) (eg : ∀ args w, (callFunc g args).run Try.prog w = .ok (.enter g args) w) (lb : Array Value) (p : Int → Bool) (A : Option Addr) (c : Nat) (xs : List Int) (w : World) (hp : PredAt Try.prog g lb (Value.int .i64) p w) (hr : (Kd.int .i64).C w A xs.length xs) (ha : 0 < xs.length → ∃ b, A = some ⟨b, 0, none⟩) :
    Calls Try.prog 81 #[.slice A xs.length c, .func (.func g) #[] lb] w fun e w' => e = .returned (.bool (xs.any p)) ∧ ∃ q, w' = w.drewN q := by
  by_cases hp0 : 0 < xs.length
  · obtain ⟨b, rfl⟩ := ha hp0
    have h := AnyE.slices_ContainsFunc Lcf (Value.int .i64) p g lb eg b 0 xs.length c xs w hp (Nat.le_refl _) (Kd.C_max hr) (cellsOf hr)
    rw [List.take_length] at h
    exact h
  · obtain rfl : xs = [] := List.length_eq_zero_iff.mp (by omega)
    exact (AnyE.slices_ContainsFunc_empty Lcf A c _ w).mono fun e w' ⟨he, hw⟩ => ⟨he, 0, hw⟩
def amsF (xs : List Int) : Option Bool := some (decide (okAm xs))
theorem amsF_eq (xs : List Int) : amsF xs = some (decide (okAm xs)) := rfl
def amB (x : Int) : Bool := decide (-1000000000 ≤ x ∧ x ≤ 1000000000)
theorem amPred (w : World) : PredAt Try.prog 97 #[] (Value.int .i64) (fun x => !amB x) w := fun W x _ => by
  unfold FnGives
  have h : impl_isAmount.f x = some (amB x) := isAmount_eq x
  go_enter Try.func97, Try.ntmps97
  go_wp2_with (go_at_call 54; refine (impl_isAmount.calls x _ _ h).mono ?_; rintro e w' ⟨rfl, ⟨n, rfl⟩⟩)
  go_ret
  exact ⟨rfl, n, rfl⟩
set_option maxHeartbeats 8000000 in
set_option maxRecDepth 100000 in
theorem areAms_c (A0 : Option Addr) (c0 : Nat) (xs : List Int) (v : Bool) (hv : amsF xs = some v) (w : World) (hr0 : (Kd.int .i64).C w A0 xs.length xs) (ha0 : 0 < xs.length → ∃ b, A0 = some ⟨b, 0, none⟩) :
    Calls Try.prog 80 #[.slice A0 xs.length c0] w fun e w' => e = .returned (.bool v) ∧ Below w.heap.size w w' := by
  have EG := am_ (show ∀ args w, (callFunc 97 args).run Try.prog w = .ok (.enter 97 args) w from enters_of Try.func97 (by kernel_rfl) rfl)
  rw [amsF_eq, Option.some.injEq] at hv
  have HR0 := am_ hr0
  have HA0 := am_ ha0
  by_cases hl : xs.length ≤ 20
  · have hq : decide (okAm xs) = !(xs.any (fun x => !amB x)) := okAm_any hl
    rw [hv] at hq
    obtain ⟨q, hqe⟩ : ∃ q, q = xs.any (fun x => !amB x) := ⟨_, rfl⟩
    rw [← hqe] at hq
    have HQ := am_ hqe
    have HV := am_ hq
    have cl : decide ((xs.length : Int) ≤ 20) = true := decide_eq_true (by omega)
    clear hq hqe hv hr0 ha0
    go_enter Try.func80, Try.ntmps80
    go_wp2_with (go_at_call 81; refine (containsFunc_c 97 EG.out #[] (fun x => !amB x) _ _ xs _ (amPred _) HR0.out HA0.out).mono ?_; rw [← HQ.out]; rintro e w2 ⟨rfl, ⟨n, rfl⟩⟩)
    go_ret
    exact ⟨by rw [HV.out]; rfl, (by repeat first | (with_reducible first | exact (Below.refl _ _) | apply ba_ | apply bn_ | apply bd_) | exact (Below.refl _ _))⟩
  · obtain rfl : v = false := by rw [← hv]; exact decide_eq_false (fun g => hl g.1)
    have cl : decide ((xs.length : Int) ≤ 20) = false := decide_eq_false (by omega)
    clear hv hr0 ha0
    go_enter Try.func80, Try.ntmps80
    go_wp2
    go_ret
    exact ⟨rfl, (by repeat first | (with_reducible first | exact (Below.refl _ _) | apply ba_ | apply bn_ | apply bd_) | exact (Below.refl _ _))⟩
theorem infoI : (Try.prog.info? 3).map (fun i => (i.zero, i.size, i.bytes)) = some (some (.int .i64 0), 1, 8) := by kernel_rfl
theorem R_ownlt {α : Type} {d : Kd α} {e base : Nat} {ok : Nat → Prop} {w : World} {v : Value} {xs : List α} (h : d.R e w base ok v xs) {k : Nat} (hk : v.ownBlock = some k) : base ≤ k ∧ k < w.heap.size := by
  obtain ⟨inner, ho⟩ := Kd.R_own h
  exact ⟨own_base ho k hk, own_lt ho k hk⟩
/-- A store into another block than the row's own. -/
theorem R_offset {base : Nat} {w : World} {v : Value} {xs : List Int} (h : (Kd.int .i64).R 3 w base (fun _ => True) v xs) {g : Nat} (hd : ∀ k, v.ownBlock = some k → k ≠ g) (j : Nat) (u : Value) : (Kd.int .i64).R 3 (w.setCell ⟨g, j, none⟩ u) base (fun _ => True) v xs :=
  Kd.R_mono (Kd.R_far (p := ⟨g, j, none⟩) (R_flat flat_int h hd) (fun k hk => hk) u) (fun _ _ => trivial)
/-- Another row was appended to. -/
theorem R_offrow {base : Nat} {w w1 : World} {u v : Value} {xs : List Int} (h : (Kd.int .i64).R 3 w base (fun _ => True) u xs) (hg : w.grownBy w1 v.ownBlock) (hd : ∀ k, u.ownBlock = some k → v.ownBlock ≠ some k) : (Kd.int .i64).R 3 w1 base (fun _ => True) u xs :=
  Kd.R_mono (Kd.R_grown (R_flat flat_int h (fun k hk => hd k hk)) hg (fun k hk e => hk e.symm)) (fun _ _ => trivial)
theorem off_app {w : World} {v v1 : Value} {g : Nat} (hd : ∀ k, v.ownBlock = some k → k ≠ g) (hg : g < w.heap.size) (hat : v1.ownBlock = v.ownBlock ∨ ∃ b, v1.ownBlock = some b ∧ w.heap.size ≤ b) : ∀ k, v1.ownBlock = some k → k ≠ g := by
  intro k hk
  rcases hat with e | ⟨b, e, hb⟩
  · exact hd k (e ▸ hk)
  · rw [e] at hk
    injection hk with hk
    omega
def IvP (a b : Nat) (o : Option Nat) (k : Nat) : Prop := Iv a b k ∧ o = some k
theorem R_ivp {base a b : Nat} {ok : Nat → Prop} {w : World} {v : Value} {xs : List Int} (h : (Kd.int .i64).R 3 w base ok v xs) (ha : a ≤ base) (hb : b ≤ base) : (Kd.int .i64).R 3 w b (IvP a w.heap.size v.ownBlock) v xs :=
  R_flat flat_int (R_ivw h ha hb) (fun k hk => ⟨(R_ivw h ha hb).1 k hk, hk⟩)
def Lcl_ren : Go.Shelf.Ren := ⟨fun | 15 => 102 | n => n, fun | 3 => 3 | 4 => 4 | 22 => 51 | n => n, fun | n => n⟩
theorem Lcl : Go.Proofs.Lays2.n15 Try.prog Lcl_ren := {
  mixed := by kernel_rfl,
  f15 := Try.func102.trans (congrArg some (by kernel_rfl)),
  t3 := Try.underlying3,
  a3 := Try.isAgg3,
  z3 := Try.sizeOf3,
  v3 := Try.zeroValue3,
  t4 := Try.underlying4,
  a4 := Try.isAgg4,
  z4 := Try.sizeOf4,
  v4 := Try.zeroValue4,
  t22 := Try.underlying51,
  a22 := Try.isAgg51,
  z22 := Try.sizeOf51,
  v22 := Try.zeroValue51,
  i3 := by kernel_rfl }

/-- slices.Clone of whole numbers, not empty. -/
theorem cloneInt_c (b c : Nat) (xs : List Int) (w : World) (hr : (Kd.int .i64).C w (some ⟨b, 0, none⟩) xs.length xs) (hl : xs.length ≤ 1048576) :
    Calls Try.prog 102 #[.slice (some ⟨b, 0, none⟩) xs.length c] w fun e w' => ∃ v, e = .returned v ∧ (Kd.int .i64).R 3 w' w.heap.size (fun _ => True) v xs ∧ Below w.heap.size w w' :=
  (Any.slices_Clone_int Lcl b 0 xs.length c xs w (Nat.le_refl _) (by omega) (cellsOfD hr)).mono fun e w' ⟨v, he, ho, _, hb⟩ => ⟨v, he, Kd.R_of_own (by rw [List.take_length] at ho; exact ho) (fun _ _ => trivial), hb⟩
def Lmax_ren : Go.Shelf.Ren := ⟨fun | 113 => 103 | n => n, fun | 0 => 0 | 3 => 3 | 4 => 4 | 9 => 9 | 20 => 20 | 28 => 51 | n => n, fun | n => n⟩
theorem Lmax : Go.Proofs.Lays.n113 Try.prog Lmax_ren := {
  mixed := by kernel_rfl,
  f113 := Try.func103.trans (congrArg some (by kernel_rfl)),
  t0 := Try.underlying0,
  a0 := Try.isAgg0,
  z0 := Try.sizeOf0,
  v0 := Try.zeroValue0,
  t3 := Try.underlying3,
  a3 := Try.isAgg3,
  z3 := Try.sizeOf3,
  v3 := Try.zeroValue3,
  t4 := Try.underlying4,
  a4 := Try.isAgg4,
  z4 := Try.sizeOf4,
  v4 := Try.zeroValue4,
  t9 := Try.underlying9,
  a9 := Try.isAgg9,
  z9 := Try.sizeOf9,
  v9 := Try.zeroValue9,
  t20 := Try.underlying20,
  a20 := Try.isAgg20,
  z20 := Try.sizeOf20,
  v20 := Try.zeroValue20,
  t28 := Try.underlying51,
  a28 := Try.isAgg51,
  z28 := Try.sizeOf51,
  v28 := Try.zeroValue51 }

theorem max_c (g m cap : Nat) (xs : List Int) (w : World) (hr : (Kd.int .i64).C w (some ⟨g, 0, none⟩) m xs) (h0 : 0 < m) :
    Calls Try.prog 103 #[.slice (some ⟨g, 0, none⟩) m cap] w fun e w' => e = .returned (.int .i64 (Lib.maxOf xs)) ∧ w = w' := by
  have hl := Kd.C_len hr
  have h := Any.slices_Max_int Lmax g 0 m cap xs w h0 (by omega) (Kd.C_max hr) (cellsOfD hr)
  rw [List.take_of_length_le (by omega)] at h
  exact h.mono fun e w' ⟨he, hw⟩ => ⟨he, hw.symm⟩
def Lso_ren : Go.Shelf.Ren := ⟨fun | 20 => 109 | n => n, fun | 0 => 0 | 3 => 3 | 4 => 4 | 22 => 51 | 24 => 3 | 25 => 97 | n => n, fun | n => n⟩
theorem Lso : Go.Proofs.SlLaysF.n20 Try.prog Lso_ren := {
  mixed := by kernel_rfl,
  f20 := ⟨Try.f109.name, by decide, Try.func109.trans (congrArg some (by kernel_rfl))⟩,
  t0 := Try.underlying0,
  a0 := Try.isAgg0,
  z0 := Try.sizeOf0,
  v0 := Try.zeroValue0,
  t3 := Try.underlying3,
  a3 := Try.isAgg3,
  z3 := Try.sizeOf3,
  v3 := Try.zeroValue3,
  t4 := Try.underlying4,
  a4 := Try.isAgg4,
  z4 := Try.sizeOf4,
  v4 := Try.zeroValue4,
  t22 := Try.underlying51,
  a22 := Try.isAgg51,
  z22 := Try.sizeOf51,
  v22 := Try.zeroValue51,
  a24 := Try.isAgg3,
  z24 := Try.sizeOf3,
  t25 := Try.underlying97,
  a25 := Try.isAgg97,
  z25 := Try.sizeOf97,
  v25 := Try.zeroValue97 }

/-- How two numbers compare. -/
def cmp3 (x y : Int) : Int := if x < y then -1 else if y < x then 1 else 0
set_option maxHeartbeats 2000000 in
theorem isNaN_c (x : Int) (w : World) : Calls Try.prog 100 #[.int .i64 x] w fun e w' => e = .returned (.bool false) ∧ ∃ q, w' = w.drewN q := by
  go_enter Try.func100, Try.ntmps100
  go_wp2
  go_ret
  exact ⟨by simp, 0, rfl⟩
set_option maxHeartbeats 4000000 in
theorem compare_c (x y : Int) (w : World) : Calls Try.prog 91 #[.int .i64 x, .int .i64 y] w fun e w' => e = .returned (.int .i64 (cmp3 x y)) ∧ ∃ q, w' = w.drewN q := by
  have tail : ∀ b1 b2 : Bool, decide (x < y) = b1 → decide (x > y) = b2 → cmp3 x y = (if b1 then -1 else if b2 then 1 else 0) := fun b1 b2 h1 h2 => by
    subst h1 h2; unfold cmp3; simp only [decide_eq_true_eq]
  by_cases h1 : x < y
  · have c1 : decide (x < y) = true := decide_eq_true h1
    have e1 := am_ (show cmp3 x y = -1 from if_pos h1)
    clear tail
    go_enter Try.func91, Try.ntmps91
    go_wp2_with (go_at_call 100; refine (isNaN_c _ _).mono ?_; rintro e w1 ⟨rfl, ⟨q, rfl⟩⟩)
    go_ret
    exact ⟨by rw [e1.out]; rfl, _, rfl⟩
  · have c1 : decide (x < y) = false := decide_eq_false h1
    by_cases h2 : y < x
    · have c2 : decide (y < x) = true := decide_eq_true h2
      have e1 := am_ (show cmp3 x y = 1 from (if_neg h1).trans (if_pos h2))
      clear tail
      go_enter Try.func91, Try.ntmps91
      go_wp2_with (go_at_call 100; refine (isNaN_c _ _).mono ?_; rintro e w1 ⟨rfl, ⟨q, rfl⟩⟩)
      go_ret
      exact ⟨by rw [e1.out]; rfl, _, rfl⟩
    · have c2 : decide (y < x) = false := decide_eq_false h2
      have e1 := am_ (show cmp3 x y = 0 from (if_neg h1).trans (if_neg h2))
      clear tail
      go_enter Try.func91, Try.ntmps91
      go_wp2_with (go_at_call 100; refine (isNaN_c _ _).mono ?_; rintro e w1 ⟨rfl, ⟨q, rfl⟩⟩)
      go_ret
      exact ⟨by rw [e1.out]; rfl, _, rfl⟩
section
open Go.Sort Go.Shelf
/-- How a place lies in a row. -/
def encF {m : Nat} (x : Fin (m + 1)) : Value := .int .i64 (x.val : Int)
def intsF {m : Nat} (D : Array (Fin (m + 1))) : List Int := D.toList.map (fun x => (x.val : Int))
/-- What the sort leaves of a row of one's own. -/
theorem R_sorted {m g cap base : Nat} {ok : Nat → Prop} {w W : World} {xs : List Int} (D : Array (Fin (m + 1))) (h : (Kd.int .i64).R 3 w base ok (.slice (some ⟨g, 0, none⟩) (m + 1) cap) xs) (hD : D.size = m + 1) (hS : SW encF w g 0 D W) :
    (Kd.int .i64).R 3 W base ok (.slice (some ⟨g, 0, none⟩) (m + 1) cap) (intsF D) ∧ KeepBut w W g none := by
  obtain ⟨e1, _, _⟩ := Kd.R_reads' h
  have ho := Kd.own_of_R h
  have hok := h.1
  obtain ⟨h1, h2⟩ := ho
  rcases h2 with ⟨h2, _⟩ | ⟨g', cap', cur, h2, hg, hh, hn, hm, hs, ht⟩
  · cases h2
  injection h2 with h3 h4 h5
  injection h3 with h3
  injection h3 with h3
  subst h3 h5
  have hlt : g < w.heap.size := blk_lt hh
  obtain ⟨n, os, hW⟩ := hS
  have hl : (intsF D).length = m + 1 := by simp [intsF, hD]
  have hheap : ∀ k, k < w.heap.size → W.heap[k]? = (putRow encF w g 0 D).heap[k]? := fun k hk => by
    rw [hW]
    exact heap_grow_old _ os (by rw [Go.Sort.size_putRow]; exact hk)
  refine ⟨Kd.R_of_own ⟨by simp [encs], .inr ⟨g, cap, putCells encF 0 D cur, by rw [hl], hg, ?_, by rw [hl]; omega, hm, ?_, ?_⟩⟩ hok, ?_, fun k hk hne _ => ?_⟩
  · rw [hheap g hlt]
    unfold putRow mapBlock
    simp only [Array.getElem?_modify, if_true, hh]
    rfl
  · unfold putCells; rw [Array.size_mapIdx]; exact hs
  · apply List.ext_getElem?
    intro j
    have hcs : cur.size = cap := by rw [hs]; omega
    have hnc : m + 1 ≤ cap := by omega
    rw [List.getElem?_take, hl]
    by_cases hj : j < m + 1
    · rw [if_pos (by omega), Array.getElem?_toList, putCells, Array.getElem?_mapIdx, Array.getElem?_eq_getElem (by omega), Option.map_some, if_pos ⟨by omega, by omega⟩, encs, List.getElem?_map, intsF, List.getElem?_map, Array.getElem?_toList, Array.getElem?_eq_getElem (by omega)]
      simp only [Option.map_some, Nat.sub_zero]
      rw [getElem!_pos D j (by omega)]
      rfl
    · rw [if_neg (by omega), encs, List.getElem?_map, List.getElem?_eq_none (by omega)]
      rfl
  · rw [hW]
    unfold sortWorld
    rw [size_grow, Go.Sort.size_putRow]
    show w.heap.size ≤ w.heap.size + os.size
    omega
  · rw [hheap k hk]
    unfold putRow mapBlock
    simp only [Array.getElem?_modify, if_neg (Ne.symm hne)]
theorem SW_below {m g base : Nat} {w0 w W : World} {D : Array (Fin (m + 1))} (hS : SW encF w g 0 D W) (hb : Below base w0 w) (hg : base ≤ g) (hlt : g < w.heap.size) : Below base w0 W := by
  obtain ⟨n, os, hW⟩ := hS
  refine hb.trans ⟨by rw [hW]; rfl, by rw [hW]; rfl, by rw [hW]; rfl, ?_, fun k hk => ?_⟩
  · rw [hW]; unfold sortWorld; rw [size_grow, Go.Sort.size_putRow]; show w.heap.size ≤ w.heap.size + os.size; omega
  · rw [hW]
    by_cases hk2 : k < w.heap.size
    · refine (heap_grow_old _ os (by rw [Go.Sort.size_putRow]; exact hk2)).trans ?_
      unfold putRow mapBlock
      simp only [Array.getElem?_modify, if_neg (show ¬ g = k by omega)]
      rfl
    · omega
theorem holds_iota {m g cap base : Nat} {ok : Nat → Prop} {w : World} (h : (Kd.int .i64).R 3 w base ok (.slice (some ⟨g, 0, none⟩) (m + 1) cap) (intsF (iotaA m))) : Holds encF w g 0 (iotaA m) := fun j hj => by
  have hj' : j < m + 1 := by rw [iotaA_size] at hj; exact hj
  obtain ⟨h1, h2⟩ := Kd.R_celln 0 h (j : Int) (by omega) (by omega)
  rw [Int.toNat_natCast] at h1 h2
  rw [Nat.zero_add]
  refine ⟨h1.trans ?_, h2⟩
  have e : (intsF (iotaA m)).getD j 0 = ((iotaA m)[j]!.val : Int) := by
    rw [List.getD_eq_getElem?_getD, intsF, List.getElem?_map, Array.getElem?_toList, Array.getElem?_eq_getElem hj, getElem!_pos _ j hj]
    rfl
  first
    | (rw [e]; rfl)
    | exact congrArg (fun z => some (Value.int .i64 z)) e
theorem iota_ints (m : Nat) : intsF (iotaA m) = (List.range (m + 1)).map (fun (i : Nat) => (i : Int)) := by
  apply List.ext_getElem
  · simp [intsF, iotaA]
  · intro i h1 h2
    simp only [intsF, iotaA, Array.toList_ofFn, List.map_ofFn, List.getElem_ofFn, List.getElem_map, List.getElem_range, Function.comp]
set_option maxHeartbeats 4000000 in
set_option maxRecDepth 100000 in
/-- slices.stableCmpFunc of at most twenty numbers. -/
theorem stable_c {m : Nat} (N : Nat) (hN : N = m + 1) (hm : N ≤ 20) (cf : Fin (m + 1) → Fin (m + 1) → Int) (f : Nat) (cb : Array Value) (g cap : Nat) (w : World) (eg : ∀ args w, (callFunc f args).run Try.prog w = .ok (.enter f args) w)
    (hcmp : CmpLays1 Try.prog f cb encF cf g 0 N w) (hH : Holds encF w g 0 (iotaA m)) (hg : g < w.heap.size) :
    Calls Try.prog 108 #[.slice (some ⟨g, 0, none⟩) N cap, .int .i64 N, .func (.func f) #[] cb] w fun e w' => e = .returned (.tuple #[]) ∧ SW encF w g 0 (insertionSort (ltOf cf) (iotaA m) 0 (m + 1)) w' := by
  have R : Row1 encF w g 0 (iotaA m) := ⟨fun _ => rfl, hH, hg⟩
  have hsz : (iotaA m).size = N := iotaA_size.trans hN.symm
  have hs2 : (insertionSort (ltOf cf) (iotaA m) 0 N).size = N := (sort_size _ _ _ _).trans hsz
  have h1 := Any.insertionSortCmpFunc_s (P := Try.prog) Lso encF cf f cb g 0 cap 0 N (iotaA m) (iotaA m) w w eg (by rw [hsz]; exact hcmp) R rfl (SW.start hH) (Nat.zero_le _) (by rw [hsz]; exact Nat.le_refl _) (by rw [hsz]; omega)
  have h2 := fun (W : World) (hS : SW encF w g 0 (insertionSort (ltOf cf) (iotaA m) 0 N) W) (h20 : N = 20) => Any.insertionSortCmpFunc_s (P := Try.prog) Lso encF cf f cb g 0 cap 20 20 (iotaA m) (insertionSort (ltOf cf) (iotaA m) 0 N) w W eg (by rw [hsz]; exact hcmp) R (by rw [hsz, hs2]) hS (Nat.le_refl _) (by rw [hs2]; omega) (by rw [hs2]; omega)
  rw [hsz] at h1
  simp only [hs2, sort_none] at h2
  have hg_ : insertionSort (ltOf cf) (iotaA m) 0 N = insertionSort (ltOf cf) (iotaA m) 0 (m + 1) := congrArg (insertionSort (ltOf cf) (iotaA m) 0) hN
  rw [← hg_]
  clear hg_
  generalize insertionSort (ltOf cf) (iotaA m) 0 N = D at h1 h2 hs2 ⊢
  have HH1 := am_ h1
  have HH2 := am_ h2
  clear h1 h2 hcmp R hH hg hs2 hsz hN eg
  by_cases h20 : N = 20
  · subst h20
    have H2 := am_ (fun W hS => HH2.out W hS rfl)
    clear HH2
    go_enter Try.func108, Try.ntmps108
    go_wp2
    refine wp_loop_rounds 2 ?_
    rw [rounds_succ]
    go_wp2_with (go_at_call_of 109 (Value.int .i64 0); refine HH1.out.mono ?_; rintro e w1 ⟨rfl, hS_⟩; have hS := am_ hS_; clear hS_)
    rw [rounds_succ]
    go_wp2_with (go_at_call 109; refine (H2.out _ hS.out).mono ?_; rintro e w2 ⟨rfl, hT_⟩; have hT := am_ hT_; clear hT_)
    refine wp_loop_rounds 1 ?_
    rw [rounds_succ]
    go_wp2
    go_end0
    exact ⟨rfl, hT.out⟩
  · have hlt : N < 20 := by omega
    have c1 : decide (20 ≤ N) = false := decide_eq_false (by omega)
    have c2 : decide (20 < N) = false := decide_eq_false (by omega)
    go_enter Try.func108, Try.ntmps108
    go_wp2
    refine wp_loop_rounds 1 ?_
    rw [rounds_succ]
    go_wp2_with (go_at_call 109; refine HH1.out.mono ?_; rintro e w1 ⟨rfl, hS_⟩; have hS := am_ hS_; clear hS_)
    refine wp_loop_rounds 1 ?_
    rw [rounds_succ]
    go_wp2
    all_goals first | (exfalso; omega) | (go_end0; exact ⟨rfl, hS.out⟩)
/-- slices.SortStableFunc of at most twenty numbers. -/
theorem sortStable_c {m : Nat} (N : Nat) (hN : N = m + 1) (hm : N ≤ 20) (cf : Fin (m + 1) → Fin (m + 1) → Int) (f : Nat) (cb : Array Value) (g cap : Nat) (w : World) (eg : ∀ args w, (callFunc f args).run Try.prog w = .ok (.enter f args) w)
    (hcmp : CmpLays1 Try.prog f cb encF cf g 0 N w) (hH : Holds encF w g 0 (iotaA m)) (hg : g < w.heap.size) :
    Calls Try.prog 106 #[.slice (some ⟨g, 0, none⟩) N cap, .func (.func f) #[] cb] w fun e w' => e = .returned (.tuple #[]) ∧ SW encF w g 0 (insertionSort (ltOf cf) (iotaA m) 0 (m + 1)) w' := by
  have HH1 := am_ (stable_c N hN hm cf f cb g cap w eg hcmp hH hg)
  clear hcmp hH hg hN hm eg
  go_enter Try.func106, Try.ntmps106
  go_wp2_with (go_at_call 108; refine HH1.out.mono ?_; rintro e w1 ⟨rfl, hS_⟩; have hS := am_ hS_; clear hS_)
  go_end0
  exact ⟨rfl, hS.out⟩
end
/-- Three blocks, as they lie. -/
def Bx (a b c : Nat) (oa ob oc : Obj) (W : World) : Prop := W.heap[a]? = some oa ∧ W.heap[b]? = some ob ∧ W.heap[c]? = some oc
theorem Bx.step {a b c : Nat} {oa ob oc : Obj} {w w1 : World} (h : Bx a b c oa ob oc w) (hk : ∀ k, k = a ∨ k = b ∨ k = c → k < w.heap.size → w1.heap[k]? = w.heap[k]?) : Bx a b c oa ob oc w1 :=
  ⟨(hk a (.inl rfl) (blk_lt h.1)).trans h.1, (hk b (.inr (.inl rfl)) (blk_lt h.2.1)).trans h.2.1, (hk c (.inr (.inr rfl)) (blk_lt h.2.2)).trans h.2.2⟩
theorem Bx.below {a b c : Nat} {oa ob oc : Obj} {w w1 : World} (h : Bx a b c oa ob oc w) (hb : Below w.heap.size w w1) : Bx a b c oa ob oc w1 := h.step (fun k _ hk => hb.block k hk)
theorem Bx.drew {a b c : Nat} {oa ob oc : Obj} {w : World} (h : Bx a b c oa ob oc w) : Bx a b c oa ob oc w.drew := h
theorem Bx.drewN {a b c : Nat} {oa ob oc : Obj} {w : World} (h : Bx a b c oa ob oc w) (n : Nat) : Bx a b c oa ob oc (w.drewN n) := h
theorem Bx.alloc {a b c : Nat} {oa ob oc : Obj} {w : World} (h : Bx a b c oa ob oc w) (o : Obj) : Bx a b c oa ob oc (w.alloc o) := h.below (below_alloc (Below.refl _ _) o)
/-- A row's own block is none of three. -/
def Off3 (a b c : Nat) (v : Value) : Prop := ∀ k, v.ownBlock = some k → k ≠ a ∧ k ≠ b ∧ k ≠ c
theorem Bx.grown {a b c : Nat} {oa ob oc : Obj} {w w1 : World} {v : Value} (h : Bx a b c oa ob oc w) (hg : w.grownBy w1 v.ownBlock) (hd : Off3 a b c v) : Bx a b c oa ob oc w1 :=
  h.step (fun k hk hlt => hg.block k hlt (fun e => by have := hd k e.symm; rcases hk with q | q | q <;> omega))
theorem Bx.lit {a b c : Nat} {oa ob oc : Obj} {w w1 : World} (h : Bx a b c oa ob oc w) (hg : w.grownBy w1 none) : Bx a b c oa ob oc w1 := h.step (fun k _ hlt => hg.block k hlt (by simp))
theorem Bx.keep {a b c g : Nat} {oa ob oc : Obj} {w w1 : World} (h : Bx a b c oa ob oc w) (hk : KeepBut w w1 g none) (hg : a ≠ g ∧ b ≠ g ∧ c ≠ g) : Bx a b c oa ob oc w1 :=
  h.step (fun k hk' hlt => hk.2 k hlt (by rcases hk' with q | q | q <;> omega) (by simp))
theorem Off3.new {a b c : Nat} {oa ob oc : Obj} {w : World} {v : Value} (h : Bx a b c oa ob oc w) (hn : ∃ x, v.ownBlock = some x ∧ w.heap.size ≤ x) : Off3 a b c v := by
  obtain ⟨x, e, hx⟩ := hn
  have h1 := blk_lt h.1
  have h2 := blk_lt h.2.1
  have h3 := blk_lt h.2.2
  intro k hk
  rw [e] at hk
  injection hk with hk
  omega
theorem Off3.app {a b c : Nat} {oa ob oc : Obj} {w : World} {v v1 : Value} (hd : Off3 a b c v) (h : Bx a b c oa ob oc w) (hat : v1.ownBlock = v.ownBlock ∨ ∃ x, v1.ownBlock = some x ∧ w.heap.size ≤ x) : Off3 a b c v1 := by
  rcases hat with e | hn
  · intro k hk; exact hd k (e ▸ hk)
  · exact Off3.new h hn
/-- Two rows' blocks differ. -/
def Ap (u v : Value) : Prop := ∀ k, u.ownBlock = some k → v.ownBlock ≠ some k
theorem Ap.symm {u v : Value} (h : Ap u v) : Ap v u := fun k hk e => h k e hk
theorem Ap.new {base : Nat} {w : World} {u v : Value} {xs : List Int} (h : (Kd.int .i64).R 3 w base (fun _ => True) u xs) (hn : ∃ x, v.ownBlock = some x ∧ w.heap.size ≤ x) : Ap u v := by
  obtain ⟨x, e, hx⟩ := hn
  intro k hk he
  have := (R_ownlt h hk).2
  rw [e] at he
  injection he with he
  omega
theorem Ap.app {base : Nat} {w : World} {u v v1 : Value} {xs : List Int} (ha : Ap u v) (h : (Kd.int .i64).R 3 w base (fun _ => True) u xs) (hat : v1.ownBlock = v.ownBlock ∨ ∃ x, v1.ownBlock = some x ∧ w.heap.size ≤ x) : Ap u v1 := by
  rcases hat with e | hn
  · intro k hk; rw [e]; exact ha k hk
  · exact Ap.new h hn
set_option maxHeartbeats 4000000 in
set_option maxRecDepth 100000 in
/-- The program's comparison of two places by their remainders. -/
theorem shCmp_c (b2 b3 b5 b off c : Nat) (ws : List Int) (t al : Int) (ht : 0 ≤ t ∧ t ≤ 1000000000) (hw : ∀ x ∈ ws, 0 ≤ x ∧ x ≤ 1000000000) (hal : 0 < al) (x y : Nat) (hx : x < ws.length) (hy : y < ws.length) (W : World)
    (h2 : W.cell? ⟨b2, 0, none⟩ = some (.int .i64 t)) (h3 : W.cell? ⟨b3, 0, none⟩ = some (.slice (some ⟨b, off, none⟩) ws.length c)) (h5 : W.cell? ⟨b5, 0, none⟩ = some (.int .i64 al)) (hr : ∀ j, j < ws.length → W.cell? ⟨b, off + j, none⟩ = some (.int .i64 (ws.getD j 0))) :
    Calls Try.prog 107 #[.int .i64 x, .int .i64 y, .pointer (some ⟨b2, 0, none⟩), .pointer (some ⟨b3, 0, none⟩), .pointer (some ⟨b5, 0, none⟩)] W fun e w' => e = .returned (.int .i64 (cmp3 (rdN (remL t al ws) y) (rdN (remL t al ws) x))) ∧ ∃ q, w' = W.drewN q := by
  have hlen : ws.length ≤ 9223372036854775807 ∨ True := Or.inr trivial
  have hcx := hr x hx
  have hcy := hr y hy
  have e1 : ∀ j, j < ws.length → rdN (remL t al ws) j = (t * ws.getD j 0).tmod al ∧ wrap64 (t * ws.getD j 0) = t * ws.getD j 0 := fun j hj => by
    have hm : ws.getD j 0 ∈ ws := by rw [List.getD_eq_getElem?_getD, List.getElem?_eq_getElem hj]; exact List.getElem_mem hj
    refine ⟨?_, (quo_one ht (hw _ hm) hal).1⟩
    rw [rdN, remL, List.getD_eq_getElem?_getD, List.getElem?_map, List.getD_eq_getElem?_getD, List.getElem?_eq_getElem hj]
    rfl
  obtain ⟨ex, wx⟩ := e1 x hx
  obtain ⟨ey, wy⟩ := e1 y hy
  rw [ex, ey]
  generalize ws.getD x 0 = vx at hcx wx ⊢
  generalize ws.getD y 0 = vy at hcy wy ⊢
  have hal0 : ¬ al = 0 := by omega
  have hxz : (x : Int) < (ws.length : Int) := by omega
  have hyz : (y : Int) < (ws.length : Int) := by omega
  have px : (0 : Int) ≤ (x : Int) := by omega
  have py : (0 : Int) ≤ (y : Int) := by omega
  have tx : (x : Int).toNat = x := Int.toNat_natCast x
  have ty : (y : Int).toNat = y := Int.toNat_natCast y
  obtain ⟨n, hn⟩ : ∃ n, n = ws.length := ⟨_, rfl⟩
  rw [← hn] at h3 hxz hyz
  have HC := am_ (compare_c ((t * vy).tmod al) ((t * vx).tmod al))
  clear e1 ex ey hr hx hy hw ht hal hn hlen
  go_enter Try.func107, Try.ntmps107
  go_wp2
  go_quiet ((go_at_call 91; exact Calls.quiet_of (HC.out _)))
  go_wp2
  go_ret
  exact ⟨rfl, _, rfl⟩
section
open Go.Sort Go.Shelf
theorem sw_cell {m g b j : Nat} {w : World} {v : Value} (hb : b ≠ g) (n : Nat) (os : Array Obj) (D : Array (Fin (m + 1))) (h : w.cell? ⟨b, j, none⟩ = some v) : (sortWorld encF w g 0 n D os).cell? ⟨b, j, none⟩ = some v := by
  have hlt : b < w.heap.size := World.block_lt_of_cell? w _ h
  unfold sortWorld
  rw [cell?_grow _ _ _ (by rw [Go.Sort.size_putRow]; exact hlt), cell?_putRow_other encF _ g 0 D _ (Or.inl hb)]
  exact h
theorem shReads {m : Nat} (b2 b3 b5 b off c g : Nat) (ws : List Int) (t al : Int) (hl : ws.length = m + 1) (ht : 0 ≤ t ∧ t ≤ 1000000000) (hw : ∀ x ∈ ws, 0 ≤ x ∧ x ≤ 1000000000) (hal : 0 < al) (w : World)
    (h2 : w.cell? ⟨b2, 0, none⟩ = some (.int .i64 t)) (h3 : w.cell? ⟨b3, 0, none⟩ = some (.slice (some ⟨b, off, none⟩) ws.length c)) (h5 : w.cell? ⟨b5, 0, none⟩ = some (.int .i64 al)) (hr : ∀ j, j < ws.length → w.cell? ⟨b, off + j, none⟩ = some (.int .i64 (ws.getD j 0)))
    (n2 : b2 ≠ g) (n3 : b3 ≠ g) (n5 : b5 ≠ g) (nb : b ≠ g) :
    CmpLays1 Try.prog 107 #[.pointer (some ⟨b2, 0, none⟩), .pointer (some ⟨b3, 0, none⟩), .pointer (some ⟨b5, 0, none⟩)] encF (fun (x y : Fin (m + 1)) => cmp3 (rdN (remL t al ws) y.val) (rdN (remL t al ws) x.val)) g 0 ws.length w := by
  refine CmpReads.lays (fun n os D _ x y => ?_)
  exact shCmp_c b2 b3 b5 b off c ws t al ht hw hal x.val y.val (by rw [hl]; exact x.isLt) (by rw [hl]; exact y.isLt) _ (sw_cell n2 n os D h2) (sw_cell n3 n os D h3) (sw_cell n5 n os D h5) (fun j hj => sw_cell nb n os D (hr j hj))
end
theorem cmp3_lt (a b : Int) : decide (cmp3 a b < 0) = decide (a < b) := by
  unfold cmp3
  refine decide_eq_decide.mpr ?_
  split
  · omega
  · split <;> omega
theorem iota_snoc (n : Nat) : (List.range (n + 1)).map (fun (i : Nat) => (i : Int)) = (List.range n).map (fun (i : Nat) => (i : Int)) ++ [(n : Int)] := by
  rw [List.range_succ, List.map_append]; rfl
set_option maxHeartbeats 8000000 in
set_option maxRecDepth 100000 in
/-- The program's shares. -/
theorem shares_c (b off c : Nat) (ws : List Int) (t : Int) (w : World) (hr : (Kd.int .i64).C w (some ⟨b, off, none⟩) ws.length ws) (hc : ws.length ≤ c) (ht : 0 ≤ t ∧ t ≤ 1000000000) (hw : ∀ x ∈ ws, 0 ≤ x ∧ x ≤ 1000000000) (hs : 0 < sumI ws) (hn : ws.length ≤ 20) :
    Calls Try.prog 104 #[.int .i64 t, .slice (some ⟨b, off, none⟩) ws.length c] w fun e w' => ∃ v, e = .returned v ∧ (Kd.int .i64).R 3 w' w.heap.size (fun _ => True) v (shareA t ws) ∧ Below w.heap.size w w' := by
  have HR := am_ hr
  have HC := am_ hc
  have HB := am_ (Below.refl w.heap.size w)
  have hw0 : ∀ x ∈ ws, 0 ≤ x := fun x q => (hw x q).1
  have hle := sumI_le ws 1000000000 (fun x q => (hw x q).2)
  obtain ⟨ks, hks⟩ := roundsOf (implSumOf_ev ws (by omega))
  rw [sumWI_eq ws 0 hw0 (by omega) (by omega), Int.zero_add] at hks
  have HKS := am_ hks
  have HW := am_ hw
  have HT := am_ ht
  have HS := am_ hs
  obtain ⟨al, hal⟩ : ∃ q, q = sumI ws := ⟨_, rfl⟩
  rw [← hal] at HKS
  have HAL := am_ hal
  have HALP := am_ (show 0 < al from by rw [hal]; exact hs)
  have HCL := am_ (cellsOfD hr)
  have hal0 : ¬ al = 0 := by have := HALP.out; omega
  clear hr hc hw hw0 hs ht hle hks hal
  go_enter Try.func104, Try.ntmps104
  go_wp2_with (first
    | (((with_reducible refine gate_dst (N := 2) rfl ?_); refine box_event ?hg (N := 2) ?hd (cs := #[.int .i64 t]) (t := 3) ?hr ?_; (case hd => rfl); (case hg => rfl); (case hr => first | (go_simp; done) | (go_simp; rfl))); intro g2 hg w_g2 hbox hb; have n_ := am_ (below_step (by repeat first | (with_reducible first | exact HB.out | apply ba_ | apply bn_ | apply bd_) | exact HB.out) hb); have BKg2 := am_ hbox; have GEg2 := am_ (show w.heap.size ≤ g2 from by rw [hg]; exact below_size (by repeat first | (with_reducible first | exact HB.out | apply ba_ | apply bn_ | apply bd_) | exact HB.out)); clear HB ; have HB := n_; clear n_ hb hbox hg)
    | ((((with_reducible refine gate_dst (N := 3) rfl ?_); refine box_event ?hg (N := 3) ?hd (cs := #[.slice (some ⟨b, off, none⟩) ws.length c]) (t := 51) ?hr ?_; (case hd => rfl); (case hg => rfl); (case hr => first | (go_simp; done) | (go_simp; rfl))); intro g3 hg w_g3 hbox hb; have n_ := am_ (below_step (by repeat first | (with_reducible first | exact HB.out | apply ba_ | apply bn_ | apply bd_ | refine below_set ?_ GEg2.out) | exact HB.out) hb); have m_g2 := am_ (blk_below (blk_below BKg2.out (by repeat first | exact Below.refl _ _ | apply ba_ | apply bn_ | apply bd_)) hb); have NEg2_g3 := am_ (show g2 ≠ g3 from by rw [hg]; exact Nat.ne_of_lt (blk_lt (blk_below BKg2.out (by repeat first | exact Below.refl _ _ | apply ba_ | apply bn_ | apply bd_)))); have NEg3_g2 := am_ (Ne.symm NEg2_g3.out); have BKg3 := am_ hbox; have GEg3 := am_ (show w.heap.size ≤ g3 from by rw [hg]; exact below_size (by repeat first | (with_reducible first | exact HB.out | apply ba_ | apply bn_ | apply bd_ | refine below_set ?_ GEg2.out) | exact HB.out)); clear HB BKg2; have HB := n_; clear n_ hb hbox hg; have BKg2 := m_g2; clear m_g2); have yg3_0 : w_g3.cell? ⟨g3, 0, none⟩ = some (.slice (some ⟨b, off, none⟩) ws.length c) := (blk_cell BKg3.out 0).trans rfl; have fg3_0 := blk_frozen BKg3.out 0))
  clear yg3_0 fg3_0
  refine (impl_sumOf.calls ks (some ⟨b, off, none⟩) c ws al _ (by repeat first | exact (Kd.C_below HR.out HB.out) | with_reducible refine ca_ ?_ _ | with_reducible refine cn_ ?_ _ | with_reducible refine cd_ ?_) HC.out HKS.out).mono ?_
  rintro e w1 ⟨rfl, hb0⟩
  have hb := db_ hb0
  clear hb0
  replace BKg2 := am_ (blk_below (blk_below BKg2.out (by repeat first | exact Below.refl _ _ | apply ba_ | apply bn_ | apply bd_)) hb); replace BKg3 := am_ (blk_below (blk_below BKg3.out (by repeat first | exact Below.refl _ _ | apply ba_ | apply bn_ | apply bd_)) hb); replace HB := am_ (below_step (by repeat first | (with_reducible first | exact HB.out | apply ba_ | apply bn_ | apply bd_) | exact HB.out) hb); clear hb
  go_upto_region 2 with ((((with_reducible refine gate_dst (N := 5) rfl ?_); refine box_event ?hg (N := 5) ?hd (cs := #[.int .i64 0]) (t := 3) ?hr ?_; (case hd => rfl); (case hg => rfl); (case hr => first | (go_simp; done) | (go_simp; rfl))); intro g5 hg w_g5 hbox hb; have n_ := am_ (below_step (by repeat first | (with_reducible first | exact HB.out | apply ba_ | apply bn_ | apply bd_ | refine below_set ?_ GEg2.out | refine below_set ?_ GEg3.out) | exact HB.out) hb); have m_g2 := am_ (blk_below (blk_below BKg2.out (by repeat first | exact Below.refl _ _ | apply ba_ | apply bn_ | apply bd_)) hb); have NEg2_g5 := am_ (show g2 ≠ g5 from by rw [hg]; exact Nat.ne_of_lt (blk_lt (blk_below BKg2.out (by repeat first | exact Below.refl _ _ | apply ba_ | apply bn_ | apply bd_)))); have NEg5_g2 := am_ (Ne.symm NEg2_g5.out); have m_g3 := am_ (blk_below (blk_below BKg3.out (by repeat first | exact Below.refl _ _ | apply ba_ | apply bn_ | apply bd_)) hb); have NEg3_g5 := am_ (show g3 ≠ g5 from by rw [hg]; exact Nat.ne_of_lt (blk_lt (blk_below BKg3.out (by repeat first | exact Below.refl _ _ | apply ba_ | apply bn_ | apply bd_)))); have NEg5_g3 := am_ (Ne.symm NEg3_g5.out); have BKg5 := am_ hbox; have GEg5 := am_ (show w.heap.size ≤ g5 from by rw [hg]; exact below_size (by repeat first | (with_reducible first | exact HB.out | apply ba_ | apply bn_ | apply bd_ | refine below_set ?_ GEg2.out | refine below_set ?_ GEg3.out) | exact HB.out)); clear HB BKg2 BKg3; have HB := n_; clear n_ hb hbox hg; have BKg2 := m_g2; clear m_g2; have BKg3 := m_g3; clear m_g3); have yg5_0 : w_g5.cell? ⟨g5, 0, none⟩ = some (.int .i64 0) := (blk_cell BKg5.out 0).trans rfl; have fg5_0 := blk_frozen BKg5.out 0)
  clear yg5_0 fg5_0
  have BX := am_ (show Bx g2 g3 g5 (.cells #[.int .i64 t] 3 (0, 0)) (.cells #[.slice (some ⟨b, off, none⟩) ws.length c] 51 (0, 0)) (.cells #[.int .i64 al] 3 (0, 0)) (w_g5.setCell ⟨g5, 0, none⟩ (.int .i64 al)) from ⟨(by repeat (with_reducible first | exact BKg2.out | refine kn_ ?_ _ | refine kd_ ?_ | refine ka_ ?_ _ | refine kf_ ?_ NEg2_g5.out _)), (by repeat (with_reducible first | exact BKg3.out | refine kn_ ?_ _ | refine kd_ ?_ | refine ka_ ?_ _ | refine kf_ ?_ NEg3_g5.out _)), (by (with_reducible repeat first | refine kn_ ?_ _ | refine kd_ ?_ | refine ka_ ?_ _); refine blk_put (cs := #[.int .i64 0]) ?_ 0 _ rfl; (with_reducible repeat first | refine kn_ ?_ _ | refine kd_ ?_ | refine ka_ ?_ _); exact BKg5.out)⟩)
  have HB1 := am_ (show Below w.heap.size w (w_g5.setCell ⟨g5, 0, none⟩ (.int .i64 al)) from below_set HB.out GEg5.out)
  generalize w_g5.setCell ⟨g5, 0, none⟩ (.int .i64 al) = wr0 at BX HB1 ⊢
  clear HB BKg2 BKg3 BKg5
  obtain ⟨o2, ho2⟩ : ∃ o : Obj, o = .cells #[.int .i64 t] 3 (0, 0) := ⟨_, rfl⟩
  obtain ⟨o3, ho3⟩ : ∃ o : Obj, o = .cells #[.slice (some ⟨b, off, none⟩) ws.length c] 51 (0, 0) := ⟨_, rfl⟩
  obtain ⟨o5, ho5⟩ : ∃ o : Obj, o = .cells #[.int .i64 al] 3 (0, 0) := ⟨_, rfl⟩
  rw [← ho2, ← ho3, ← ho5] at BX
  have Y2 := am_ (fun (W : World) (h : Bx g2 g3 g5 o2 o3 o5 W) => (show W.cell? ⟨g2, 0, none⟩ = some (.int .i64 t) from (blk_cell (h.1.trans (congrArg some ho2)) 0).trans rfl))
  have Y3 := am_ (fun (W : World) (h : Bx g2 g3 g5 o2 o3 o5 W) => (show W.cell? ⟨g3, 0, none⟩ = some (.slice (some ⟨b, off, none⟩) ws.length c) from (blk_cell (h.2.1.trans (congrArg some ho3)) 0).trans rfl))
  have Y5 := am_ (fun (W : World) (h : Bx g2 g3 g5 o2 o3 o5 W) => (show W.cell? ⟨g5, 0, none⟩ = some (.int .i64 al) from (blk_cell (h.2.2.trans (congrArg some ho5)) 0).trans rfl))
  clear ho2 ho3 ho5
  go_wp2_with (first
    | (((with_reducible refine gate_dst (N := 13) rfl ?_); refine Kd.R_lit (Kd.int .i64) w.heap.size 3 (w0 := w) ?hg (N := 13) ?hd (xs := []) (inner := []) (ok := fun _ => True) (okp := fun _ => True) ?hr ?hp (fun _ hk => hk) trivial (by repeat first | (with_reducible first | exact HB1.out | apply ba_ | apply bn_ | apply bd_) | exact HB1.out) (below_size (by repeat first | (with_reducible first | exact HB1.out | apply ba_ | apply bn_ | apply bd_) | exact HB1.out)) (by simp) ?_; (case hd => rfl); (case hg => rfl); (case hr => first | (go_simp; done) | (go_simp; rfl)); (case hp => exact (Reps.none _ _)); intro v1 w1 ho hb hgr hnw); have HO6 := am_ ho; have OF6 := am_ (Off3.new BX.out hnw); have n_ := am_ (BX.out.lit hgr); clear BX HB1; have BX := n_; have HB1 := am_ hb; clear n_ ho hb hgr hnw)
    | (((with_reducible refine gate_dst (N := 14) rfl ?_); refine Kd.R_lit (Kd.int .i64) w.heap.size 3 (w0 := w) ?hg (N := 14) ?hd (xs := []) (inner := []) (ok := fun _ => True) (okp := fun _ => True) ?hr ?hp (fun _ hk => hk) trivial (by repeat first | (with_reducible first | exact HB1.out | apply ba_ | apply bn_ | apply bd_) | exact HB1.out) (below_size (by repeat first | (with_reducible first | exact HB1.out | apply ba_ | apply bn_ | apply bd_) | exact HB1.out)) (by simp) ?_; (case hd => rfl); (case hg => rfl); (case hr => first | (go_simp; done) | (go_simp; rfl)); (case hp => exact (Reps.none _ _)); intro v1 w1 ho hb hgr hnw); have HO7 := am_ ho; have OF7 := am_ (Off3.new BX.out hnw); have AP := am_ (Ap.new HO6.out hnw); have m_ := am_ (R_same HO6.out hgr); have n_ := am_ (BX.out.lit hgr); clear BX HB1 HO6; have BX := n_; have HO6 := m_; have HB1 := am_ hb; clear n_ m_ ho hb hgr hnw; have y3 := Y3.out _ BX.out))
  clear y3
  go_loopw [6, 7, 17] (fun v6 v7 v17 wr => ∃ (pre rest : List Int), v17 = .int .i64 pre.length ∧ Aside0 (ws = pre ++ rest) ∧ Aside0 ((Kd.int .i64).R 3 wr w.heap.size (fun _ => True) v6 (quoL t al pre)) ∧ Aside0 ((Kd.int .i64).R 3 wr w.heap.size (fun _ => True) v7 ((List.range pre.length).map (fun (i : Nat) => (i : Int)))) ∧ Aside0 (Off3 g2 g3 g5 v6) ∧ Aside0 (Off3 g2 g3 g5 v7) ∧ Aside0 (Ap v6 v7) ∧ Aside0 (Bx g2 g3 g5 o2 o3 o5 wr) ∧ Aside0 (Below w.heap.size w wr)) (fun _ _ v17 _ => ws.length - (intOf v17).toNat)
  case atStart => exact ⟨[], ws, rfl, ⟨rfl⟩, ⟨(by (with_reducible repeat first | apply ra_ | apply rn_ | apply rd_); exact HO6.out)⟩, ⟨(by (with_reducible repeat first | apply ra_ | apply rn_ | apply rd_); exact HO7.out)⟩, OF6, OF7, AP, ⟨by repeat first | exact BX.out | apply Bx.drewN | apply Bx.drew | apply Bx.alloc⟩, ⟨(by repeat first | (with_reducible first | exact HB1.out | apply ba_ | apply bn_ | apply bd_) | exact HB1.out)⟩⟩
  case round =>
    clear HO6 HO7 OF6 OF7 AP BX HB1
    obtain ⟨pre, rest, rfl, HX, HO6, HO7, OF6, OF7, AP, BX, HB⟩ := hrel
    cases rest with
    | nil =>
      have hl_ := len_nil HX.out
      have hx_ : ws = pre := by simpa using HX.out
      rw [← hx_] at HO6 HO7
      have c1 : decide (pre.length < ws.length) = false := decide_eq_false (by omega)
      obtain ⟨m, hm⟩ : ∃ m, ws.length = m + 1 := ⟨ws.length - 1, by
        have := HS.out
        cases ws with
        | nil => simp [sumI] at this
        | cons x y => simp⟩
      obtain ⟨g7, cap7, h7, hg7, hlt7, _⟩ := Kd.R_form HO7.out (by simp; omega)
      rw [show ((List.range ws.length).map (fun (i : Nat) => (i : Int))).length = ws.length from by simp] at h7
      subst h7
      have H7 := am_ (show (Kd.int .i64).R 3 wr w.heap.size (fun _ => True) (.slice (some ⟨g7, 0, none⟩) (m + 1) cap7) (intsF (iotaA m)) from by rw [iota_ints, ← hm]; exact HO7.out)
      have nn := OF7.out g7 rfl
      have hbw : b < w.heap.size := World.block_lt_of_cell? w _ (HCL.out 0 (by omega))
      obtain ⟨cf, hcf⟩ : ∃ cf : Fin (m + 1) → Fin (m + 1) → Int, cf = fun x y => cmp3 (rdN (remL t al ws) y.val) (rdN (remL t al ws) x.val) := ⟨_, rfl⟩
      have HSORT := am_ (fun (W : World) (hB : Bx g2 g3 g5 o2 o3 o5 W) (hb : Below w.heap.size w W) (h7 : (Kd.int .i64).R 3 W w.heap.size (fun _ => True) (.slice (some ⟨g7, 0, none⟩) (m + 1) cap7) (intsF (iotaA m))) =>
        sortStable_c ws.length hm hn cf 107 #[.pointer (some ⟨g2, 0, none⟩), .pointer (some ⟨g3, 0, none⟩), .pointer (some ⟨g5, 0, none⟩)] g7 cap7 W (enters_of Try.func107 (by kernel_rfl) rfl)
          (by rw [hcf]; exact shReads g2 g3 g5 b off c g7 ws t al hm HT.out HW.out HALP.out W (Y2.out W hB) (Y3.out W hB) (Y5.out W hB) (fun j hj => (hb.cell (World.block_lt_of_cell? w _ (HCL.out j hj))).trans (HCL.out j hj)) (Ne.symm nn.1) (Ne.symm nn.2.1) (Ne.symm nn.2.2) (by omega)) (holds_iota h7) (R_ownlt h7 rfl).2)
      obtain ⟨lt, hlt⟩ : ∃ lt : Fin (m + 1) → Fin (m + 1) → Bool, lt = ltOf cf := ⟨_, rfl⟩
      have hlt2 : ∀ x y, lt x y = decide (rdN (remL t (sumI ws) ws) y.val < rdN (remL t (sumI ws) ws) x.val) := fun x y => by rw [hlt, ltOf, hcf, ← HAL.out]; exact cmp3_lt _ _
      have HFIN := am_ (shareA_ord HT.out.1 hm (fun x q => (HW.out x q).1) HS.out lt hlt2)
      obtain ⟨o1_, _, o3_, _, _⟩ := ord_ok (remL t (sumI ws) ws) lt hlt2
      have HO1 := am_ o1_
      have HO3 := am_ o3_
      have hLB := left_bd HT.out.1 (fun x q => (HW.out x q).1) HS.out
      have HMM := am_ hm
      have HDS := am_ ((sort_size lt (iotaA m) 0 (m + 1)).trans iotaA_size)
      rw [← hlt] at HSORT
      rw [← HAL.out] at HFIN hLB
      obtain ⟨Q, hQ⟩ : ∃ Q, Q = quoL t al ws := ⟨_, rfl⟩
      have HQL := am_ (show Q.length = ws.length from by rw [hQ, quoL_length])
      have HQN := am_ (show ∀ x ∈ Q, 0 ≤ x from by rw [hQ]; exact quo_bd HALP.out HT.out.1 (fun x q => (HW.out x q).1))
      rw [← hQ] at HFIN hLB HO6
      have HLB := am_ hLB
      clear hx_ hl_ hcf hlt hlt2 o1_ o3_ hLB hQ HO7 hm hlt7
      go_wp2_with fail
      refine (HSORT.out _ (by repeat first | exact BX.out | apply Bx.drewN | apply Bx.drew | apply Bx.alloc) (by repeat first | (with_reducible first | exact HB.out | apply ba_ | apply bn_ | apply bd_) | exact HB.out) (by (with_reducible repeat first | apply ra_ | apply rn_ | apply rd_); exact H7.out)).mono ?_
      rintro e w2 ⟨rfl, hS⟩
      obtain ⟨r7, hk⟩ := R_sorted _ (by (with_reducible repeat first | apply ra_ | apply rn_ | apply rd_); exact H7.out) HDS.out hS
      have m6 := am_ (show (Kd.int .i64).R 3 w2 w.heap.size (fun _ => True) u6 Q from Kd.R_mono (Kd.R_keep (R_flat (ok' := fun k => k ≠ g7) flat_int (by (with_reducible repeat first | apply ra_ | apply rn_ | apply rd_); exact HO6.out) (fun k hk_ he => AP.out k hk_ (by rw [he]; rfl))) hk (fun k hk => hk)) (fun _ _ => trivial))
      have mx := am_ (Bx.keep (by repeat first | exact BX.out | apply Bx.drewN | apply Bx.drew | apply Bx.alloc) hk ⟨Ne.symm nn.1, Ne.symm nn.2.1, Ne.symm nn.2.2⟩)
      have mb := am_ (SW_below hS (by repeat first | (with_reducible first | exact HB.out | apply ba_ | apply bn_ | apply bd_) | exact HB.out) hg7 (R_ownlt (show (Kd.int .i64).R 3 _ w.heap.size (fun _ => True) (.slice (some ⟨g7, 0, none⟩) (m + 1) cap7) (intsF (iotaA m)) from (by (with_reducible repeat first | apply ra_ | apply rn_ | apply rd_); exact H7.out)) rfl).2)
      have H8 := am_ r7
      clear hS r7 hk HO6 BX HB H7 HSORT
      have HO6 := m6
      have BX := mx
      have HB := mb
      clear m6 mx mb
      have y2 := Y2.out _ BX.out
      obtain ⟨g6, c6, e6, hg6, hl6, _⟩ := Kd.R_form HO6.out (by have := HQL.out; have := HMM.out; omega)
      subst e6
      obtain ⟨kq, hkq⟩ := roundsOf (implSumOf_ev Q (by have := HQL.out; omega))
      have hlb0 := HLB.out.1
      have hlb1 := HLB.out.2
      have ht0 := HT.out.1
      have ht1 := HT.out.2
      have hq0 := sumI_nonneg Q HQN.out
      rw [sumWI_eq Q 0 HQN.out (by omega) (by omega), Int.zero_add] at hkq
      have HKQ := am_ hkq
      have HC6 := am_ (R_cap HO6.out)
      have HM := am_ (HO1.out.symm.trans (HO1.out.trans rfl))
      have d67 : g6 ≠ g7 := fun q => AP.out g6 rfl (by rw [q]; rfl)
      have D67 := am_ d67
      have HN := am_ (show (ordOf lt).length = ws.length from HO1.out.trans HMM.out.symm)
      obtain ⟨SQ, hSQ⟩ : ∃ q, q = sumI Q := ⟨_, rfl⟩
      rw [← hSQ] at HKQ hlb0 hlb1 hq0 HFIN HLB
      clear hkq d67 hSQ HM
      go_wp2_with fail
      go_quiet ((go_at_call 83; exact Calls.quiet_of ((impl_sumOf.calls kq (some ⟨g6, 0, none⟩) c6 Q _ _ (by repeat first | exact (R_C HO6.out) | with_reducible refine ca_ ?_ _ | with_reducible refine cn_ ?_ _ | with_reducible refine cd_ ?_) HC6.out HKQ.out).mono fun e w' ⟨he, ⟨n, hw⟩⟩ => ⟨he, n, hw⟩)))
      clear y2
      go_wp2_with fail
      go_loopw [42] (fun v42 wr => ∃ k : Nat, v42 = .int .i64 k ∧ Aside0 ((k : Int) ≤ t - SQ) ∧ Aside0 ((Kd.int .i64).R 3 wr w.heap.size (fun _ => True) (.slice (some ⟨g6, 0, none⟩) Q.length c6) (giveI ((ordOf lt).take k) Q)) ∧ Aside0 ((Kd.int .i64).R 3 wr w.heap.size (fun _ => True) (.slice (some ⟨g7, 0, none⟩) (m + 1) cap7) (intsF (Go.Sort.insertionSort lt (iotaA m) 0 (m + 1)))) ∧ Aside0 (Below w.heap.size w wr)) (fun v42 _ => (t - SQ).toNat - (intOf v42).toNat)
      case atStart => exact ⟨0, rfl, ⟨by omega⟩, ⟨by rw [List.take_zero]; exact (by (with_reducible repeat first | apply ra_ | apply rn_ | apply rd_); exact HO6.out)⟩, ⟨(by (with_reducible repeat first | apply ra_ | apply rn_ | apply rd_); exact H8.out)⟩, ⟨(by repeat first | (with_reducible first | exact HB.out | apply ba_ | apply bn_ | apply bd_) | exact HB.out)⟩⟩
      case round =>
        clear HO6 H8 HB
        obtain ⟨k, rfl, HK, HO6, H8, HB⟩ := hrel
        have hk := HK.out
        by_cases hlt : (k : Int) < t - SQ
        · have c2 : decide ((k : Int) < t - SQ) = true := decide_eq_true hlt
          have hkm : k < (ordOf lt).length := by have := HN.out; omega
          obtain ⟨ik, hik⟩ : ∃ q, q = (ordOf lt)[k] := ⟨_, rfl⟩
          have him : ik < m + 1 := by rw [hik]; exact HO3.out _ (List.getElem_mem hkm)
          have HGO := am_ (show giveI ((ordOf lt).take (k + 1)) Q = inc (giveI ((ordOf lt).take k) Q) ik from by
            rw [List.take_add_one, List.getElem?_eq_getElem hkm, Option.toList_some, giveI_snoc, hik])
          obtain ⟨out, hout⟩ : ∃ q, q = giveI ((ordOf lt).take k) Q := ⟨_, rfl⟩
          rw [← hout] at HO6 HGO
          obtain ⟨x, hx⟩ : ∃ x, x = rdN out ik := ⟨_, rfl⟩
          have HX6 := am_ (show inc out ik = out.set ik (wrap64 (x + 1)) from by rw [inc, hx])
          have hikz : (ik : Int) < Q.length := by have := HQL.out; have := HMM.out; omega
          have hkz : (k : Int) < ws.length := by omega
          have hy6 : wr.cell? ⟨g6, ik, none⟩ = some (.int .i64 x) := by
            have h := (Kd.R_celln 0 HO6.out (ik : Int) (by omega) hikz).1
            rw [Int.toNat_natCast] at h
            rw [h, hx]
            rfl
          have hf6 := (Kd.R_celln 0 HO6.out (ik : Int) (by omega) hikz).2
          rw [Int.toNat_natCast] at hf6
          have hy7 : wr.cell? ⟨g7, k, none⟩ = some (.int .i64 (ik : Int)) := by
            have h := (Kd.R_celln 0 H8.out (k : Int) (by omega) (by have := HMM.out; omega)).1
            rw [Int.toNat_natCast] at h
            rw [h]
            have e : (intsF (Go.Sort.insertionSort lt (iotaA m) 0 (m + 1))).getD k 0 = (ik : Int) := by
              rw [List.getD_eq_getElem?_getD, intsF, show (Go.Sort.insertionSort lt (iotaA m) 0 (m + 1)).toList.map (fun x => (x.val : Int)) = (ordOf lt).map (fun (n : Nat) => (n : Int)) from by rw [ordOf, List.map_map]; rfl, List.getElem?_map, List.getElem?_eq_getElem hkm, hik]
              rfl
            exact congrArg (fun z => some (Value.int .i64 z)) e
          have tk : (k : Int).toNat = k := Int.toNat_natCast k
          have ti : (ik : Int).toNat = ik := Int.toNat_natCast ik
          have p0 : (0 : Int) ≤ (k : Int) := by omega
          have p1 : (0 : Int) ≤ (ik : Int) := by omega
          clear hx hik hout him hkm
          go_wp2
          have m6 := am_ (Kd.R_putn HO6.out (ik : Int) (wrap64 (x + 1)))
          have m7 := am_ (R_offset H8.out (g := g6) (fun q hq he => D67.out (by injection hq with hq; exact (hq.trans he).symm)) ik (.int .i64 (wrap64 (x + 1))))
          have mb := am_ (below_set (j := ik) (v := .int .i64 (wrap64 (x + 1))) HB.out hg6)
          go_roundw
          case rel => exact ⟨k + 1, by go_num, ⟨by omega⟩, ⟨by rw [HGO.out, HX6.out]; exact (by (with_reducible repeat first | apply ra_ | apply rn_ | apply rd_); exact m6.out)⟩, ⟨(by (with_reducible repeat first | apply ra_ | apply rn_ | apply rd_); exact m7.out)⟩, ⟨(by repeat first | (with_reducible first | exact mb.out | apply ba_ | apply bn_ | apply bd_) | exact mb.out)⟩⟩
          case measure => simp [intOf]; omega
        · have c2 : decide ((k : Int) < t - SQ) = false := decide_eq_false hlt
          have hK := am_ (show k = (t - SQ).toNat from by omega)
          have HF := am_ (show (Kd.int .i64).R 3 wr w.heap.size (fun _ => True) (.slice (some ⟨g6, 0, none⟩) Q.length c6) (shareA t ws) from by rw [← HFIN.out, ← hK.out]; exact HO6.out)
          clear hk hlt hlb0 hlb1 hq0 ht0 ht1 hK HO6 H8 HK
          go_wp2
          go_ret
          exact ⟨_, rfl, (by (with_reducible repeat first | apply ra_ | apply rn_ | apply rd_); exact HF.out), (by repeat first | (with_reducible first | exact HB.out | apply ba_ | apply bn_ | apply bd_) | exact HB.out)⟩
    | cons a tl =>
      have hl := len_cons HX.out
      have hpl : (pre.length : Int) < ws.length := by omega
      have ha := HW.out a (by rw [HX.out]; simp)
      obtain ⟨e1, e2⟩ := quo_one HT.out ha HALP.out
      have hcx := HCL.out pre.length (by omega)
      rw [show ws.getD pre.length 0 = a from by rw [HX.out]; simp] at hcx
      have HCX := am_ hcx
      have HBC := am_ (World.block_lt_of_cell? w _ hcx)
      replace hcx := (HB.out.cell HBC.out).trans HCX.out
      have y2 := Y2.out _ BX.out
      have y5 := Y5.out _ BX.out
      have c1 : decide (pre.length < ws.length) = true := decide_eq_true (by omega)
      have p0 : (0 : Int) ≤ (pre.length : Int) := by omega
      have tn : (pre.length : Int).toNat = pre.length := Int.toNat_natCast _
      have hq6 := quoL_length t al pre
      have hq7 : ((List.range pre.length).map (fun (i : Nat) => (i : Int))).length = pre.length := by simp
      clear hl ha
      go_wp2_with (first
        | (((with_reducible refine gate_builtin (b := .append) (xs := #[.tmp 22, .tmp 28]) rfl ?_); at_builtin; refine Kd.R_append (Kd.int .i64) (w0 := w) w.heap.size rfl (.tmp 22) (.tmp 28) 51 3 (.int .i64 0) 8 rfl Try.underlying51 infoI rfl (by decide) (by omega) u6 (quoL t al pre) ((t * a).tdiv al) [.int .i64 ((t * a).tdiv al)] (fun _ => True) (fun _ => False) rfl rfl ?aP (fun _ hk => hk.elim) ?aF ?aO ?aB ?aS ?aL ?_; (case aP => exact rfl); (case aB => exact (by repeat first | (with_reducible first | exact HB.out | apply ba_ | apply bn_ | apply bd_) | exact HB.out)); (case aF => exact (fun _ _ => trivial)); (case aO => exact (by (with_reducible repeat first | apply ra_ | apply rn_ | apply rd_); exact HO6.out)); (case aS => exact (below_size (by repeat first | (with_reducible first | exact HB.out | apply ba_ | apply bn_ | apply bd_) | exact HB.out))); (case aL => omega); intro v1 w1 ho hb hg hat); have m6 := am_ ho; have m7 := am_ (R_offrow (by (with_reducible repeat first | apply ra_ | apply rn_ | apply rd_); exact HO7.out) hg AP.out.symm); have mx := am_ (Bx.grown (by repeat first | exact BX.out | apply Bx.drewN | apply Bx.drew | apply Bx.alloc) hg OF6.out); have mo := am_ (OF6.out.app (by repeat first | exact BX.out | apply Bx.drewN | apply Bx.drew | apply Bx.alloc) hat); have ma := am_ ((Ap.app AP.out.symm (by (with_reducible repeat first | apply ra_ | apply rn_ | apply rd_); exact HO7.out) hat).symm); clear HO6 HO7 BX HB OF6 AP; have HO6 := m6; have HO7 := m7; have BX := mx; have OF6 := mo; have AP := ma; have HB := am_ hb; clear m6 m7 mx mo ma ho hb hg hat)
        | (((with_reducible refine gate_builtin (b := .append) (xs := #[.tmp 30, .tmp 32]) rfl ?_); at_builtin; refine Kd.R_append (Kd.int .i64) (w0 := w) w.heap.size rfl (.tmp 30) (.tmp 32) 51 3 (.int .i64 0) 8 rfl Try.underlying51 infoI rfl (by decide) (by omega) u7 ((List.range pre.length).map (fun (i : Nat) => (i : Int))) (pre.length : Int) [.int .i64 (pre.length : Int)] (fun _ => True) (fun _ => False) rfl rfl ?aP (fun _ hk => hk.elim) ?aF ?aO ?aB ?aS ?aL ?_; (case aP => exact rfl); (case aB => exact (by repeat first | (with_reducible first | exact HB.out | apply ba_ | apply bn_ | apply bd_) | exact HB.out)); (case aF => exact (fun _ _ => trivial)); (case aO => exact (by (with_reducible repeat first | apply ra_ | apply rn_ | apply rd_); exact HO7.out)); (case aS => exact (below_size (by repeat first | (with_reducible first | exact HB.out | apply ba_ | apply bn_ | apply bd_) | exact HB.out))); (case aL => omega); intro v1 w1 ho hb hg hat); have m7 := am_ ho; have m6 := am_ (R_offrow (by (with_reducible repeat first | apply ra_ | apply rn_ | apply rd_); exact HO6.out) hg AP.out); have mx := am_ (Bx.grown (by repeat first | exact BX.out | apply Bx.drewN | apply Bx.drew | apply Bx.alloc) hg OF7.out); have mo := am_ (OF7.out.app (by repeat first | exact BX.out | apply Bx.drewN | apply Bx.drew | apply Bx.alloc) hat); have ma := am_ (Ap.app AP.out (by (with_reducible repeat first | apply ra_ | apply rn_ | apply rd_); exact HO6.out) hat); clear HO6 HO7 BX HB OF7 AP; have HO6 := m6; have HO7 := m7; have BX := mx; have OF7 := mo; have AP := ma; have HB := am_ hb; clear m6 m7 mx mo ma ho hb hg hat))
      go_roundw
      case rel => exact ⟨pre ++ [a], tl, by rw [len_snoc], ⟨snoc HX.out⟩, ⟨by rw [quoL_snoc]; exact (by (with_reducible repeat first | apply ra_ | apply rn_ | apply rd_); exact HO6.out)⟩, ⟨by rw [List.length_append, List.length_singleton, iota_snoc]; exact (by (with_reducible repeat first | apply ra_ | apply rn_ | apply rd_); exact HO7.out)⟩, OF6, OF7, AP, ⟨by repeat first | exact BX.out | apply Bx.drewN | apply Bx.drew | apply Bx.alloc⟩, ⟨(by repeat first | (with_reducible first | exact HB.out | apply ba_ | apply bn_ | apply bd_) | exact HB.out)⟩⟩
      case measure => simp [intOf]; omega
theorem big_any : ∀ (ds : List Int) (a : Int), decide (1000000 < ds.foldl max a) = (decide (1000000 < a) || ds.any (fun d => decide (1000000 < d)))
  | [], a => by rw [List.foldl_nil, List.any_nil, Bool.or_false]
  | d :: t, a => by
    rw [List.foldl_cons, big_any t (max a d), List.any_cons]
    have e : decide (1000000 < max a d) = (decide (1000000 < a) || decide (1000000 < d)) := by
      rw [← Bool.decide_or]
      exact decide_eq_decide.mpr (by omega)
    rw [e, Bool.or_assoc]
theorem max_any {ds : List Int} (h : 0 < ds.length) : decide (1000000 < Lib.maxOf ds) = ds.any (fun d => decide (1000000 < d)) := by
  cases ds with
  | nil => simp at h
  | cons a t =>
    unfold Lib.maxOf
    rw [big_any, List.headD_cons, List.any_cons, ← Bool.or_assoc, Bool.or_self]
set_option maxHeartbeats 8000000 in
set_option maxRecDepth 100000 in
theorem divided_c (b c : Nat) (ds : List Int) (t : Int) (w : World) (hr : (Kd.int .i64).C w (some ⟨b, 0, none⟩) ds.length ds) (hc : ds.length ≤ c) (hd : ∀ d ∈ ds, 0 ≤ d ∧ d ≤ 1000000000) (ht : 0 ≤ t ∧ t ≤ 1000000000) (hs : t < sumI ds) (hn : ds.length ≤ 20) :
    Calls Try.prog 95 #[.int .i64 t, .slice (some ⟨b, 0, none⟩) ds.length c] w fun e w' => ∃ v, e = .returned v ∧ (Kd.int .i64).R 3 w' w.heap.size (fun _ => True) v (divideA ds t) ∧ Below w.heap.size w w' := by
  have HR := am_ hr
  have HC := am_ hc
  have HD := am_ hd
  have HCL := am_ (cellsOfD hr)
  have hp : 0 < ds.length := by
    cases ds with
    | nil => simp [sumI] at hs; omega
    | cons x y => simp
  have HP := am_ hp
  have hwk := weightsL_ok hd (by omega : 0 < sumI ds)
  have HWK := am_ hwk
  have hsh := shareA_sum ht (fun x q => (hwk.1 x q).1) hwk.2
  have HSH := am_ hsh
  have hct := cutL_fits (shareA t (weightsL ds)) ds (by rw [shareA_length, weightsL_length]) hsh.2 (fun d q => (hd d q).1)
  have HCT := am_ hct
  have hma := max_any hp
  obtain ⟨M, hM⟩ : ∃ M, M = Lib.maxOf ds := ⟨_, rfl⟩
  rw [← hM] at hma
  have HMA := am_ hma
  have HM := am_ hM
  have HT := am_ ht
  clear hr hc hd hs hp hwk hsh hct hma hM ht
  go_enter Try.func95, Try.ntmps95
  go_upto_if 17 with (first
    | (go_at_call 102; refine (cloneInt_c b c ds _ HR.out (by omega)).mono ?_; rintro e w1 ⟨v5_, rfl, ho, hb⟩; have HO5 := am_ ho; have HB := am_ hb; clear ho hb)
    | (go_at_call 103; refine (max_c b ds.length c ds _ (by repeat first | exact (Kd.C_below HR.out HB.out) | with_reducible refine ca_ ?_ _ | with_reducible refine cn_ ?_ _ | with_reducible refine cd_ ?_) HP.out).mono ?_; rw [← HM.out]; rintro e w2_ ⟨rfl, hw_⟩; subst hw_))
  go_cut [5] (fun v5 wx => ∃ (g5 c5 : Nat), v5 = .slice (some ⟨g5, 0, none⟩) ds.length c5 ∧ Aside0 ((Kd.int .i64).R 3 wx w.heap.size (fun _ => True) v5 (weightsL ds)) ∧ Aside0 (Below w.heap.size w wx))
  case first =>
    obtain ⟨g5, c5, e5, hg5, _, _⟩ := Kd.R_form HO5.out HP.out
    subst e5
    cases hbig : ds.any (fun d => decide (1000000 < d)) with
    | false =>
      have hq := HMA.out
      rw [hbig] at hq
      have HW := am_ (show weightsL ds = ds from by unfold weightsL; rw [if_neg (by rw [hbig]; exact Bool.false_ne_true)])
      clear hbig
      simp only [hq]
      go_wp2_with fail
      go_meet
      exact ⟨g5, c5, rfl, ⟨by rw [HW.out]; exact (by (with_reducible repeat first | apply ra_ | apply rn_ | apply rd_); exact HO5.out)⟩, ⟨(by repeat first | (with_reducible first | exact HB.out | apply ba_ | apply bn_ | apply bd_) | exact HB.out)⟩⟩
    | true =>
      have hq := HMA.out
      rw [hbig] at hq
      have HW := am_ (show weightsL ds = ds.map (fun d => (d + 999).tdiv 1000) from by unfold weightsL; rw [if_pos hbig])
      clear hbig
      simp only [hq]
      go_wp2_with fail
      go_loopw [20] (fun v20 wr => ∃ (pre rest : List Int), v20 = .int .i64 pre.length ∧ Aside0 (ds = pre ++ rest) ∧ Aside0 ((Kd.int .i64).R 3 wr w.heap.size (fun _ => True) (.slice (some ⟨g5, 0, none⟩) ds.length c5) (pre.map (fun d => (d + 999).tdiv 1000) ++ rest)) ∧ Aside0 (Below w.heap.size w wr)) (fun v20 _ => ds.length - (intOf v20).toNat)
      case atStart => exact ⟨[], ds, rfl, ⟨rfl⟩, ⟨(by (with_reducible repeat first | apply ra_ | apply rn_ | apply rd_); exact HO5.out)⟩, ⟨(by repeat first | (with_reducible first | exact HB.out | apply ba_ | apply bn_ | apply bd_) | exact HB.out)⟩⟩
      case round =>
        clear HO5 HB
        obtain ⟨pre, rest, rfl, HX, HO5, HB⟩ := hrel
        cases rest with
        | nil =>
          have hl_ := len_nil HX.out
          have hx_ : ds = pre := by simpa using HX.out
          have c1 : decide (pre.length < ds.length) = false := decide_eq_false (by omega)
          have HF := am_ (show (Kd.int .i64).R 3 wr w.heap.size (fun _ => True) (.slice (some ⟨g5, 0, none⟩) ds.length c5) (weightsL ds) from by
            have h := HO5.out
            rw [← hx_, List.append_nil, ← HW.out] at h
            exact h)
          clear hl_ hx_
          go_wp2_with fail
          go_meet
          exact ⟨g5, c5, rfl, ⟨(by (with_reducible repeat first | apply ra_ | apply rn_ | apply rd_); exact HF.out)⟩, ⟨(by repeat first | (with_reducible first | exact HB.out | apply ba_ | apply bn_ | apply bd_) | exact HB.out)⟩⟩
        | cons a tl =>
          have hl := len_cons HX.out
          have hpl : (pre.length : Int) < ds.length := by omega
          have ha := HD.out a (by rw [HX.out]; simp)
          have a0 := ha.1
          have a1 := ha.2
          have hcx := HCL.out pre.length (by omega)
          rw [show ds.getD pre.length 0 = a from by rw [HX.out]; simp] at hcx
          rw [Nat.zero_add] at hcx
          have HCX := am_ hcx
          have HBC := am_ (World.block_lt_of_cell? w _ hcx)
          replace hcx := (HB.out.cell HBC.out).trans HCX.out
          have u0 := up_nonneg a0
          have u1 := up_le ha
          have e2 : wrap64 ((a + 999).tdiv 1000) = (a + 999).tdiv 1000 := wrapId (by omega)
          obtain ⟨U, hU⟩ : ∃ U, U = (a + 999).tdiv 1000 := ⟨_, rfl⟩
          rw [← hU] at e2 u0 u1
          have HU := am_ hU
          have eU := hU.symm
          have c1 : decide (pre.length < ds.length) = true := decide_eq_true (by omega)
          have p0 : (0 : Int) ≤ (pre.length : Int) := by omega
          have tn : (pre.length : Int).toNat = pre.length := Int.toNat_natCast _
          have hy5 := (Kd.R_celln 0 HO5.out (pre.length : Int) p0 hpl).1
          have hf5 := (Kd.R_celln 0 HO5.out (pre.length : Int) p0 hpl).2
          rw [Int.toNat_natCast] at hy5 hf5
          clear hl ha hU
          go_wp2
          have m5 := am_ (Kd.R_putn HO5.out (pre.length : Int) U)
          have mb := am_ (below_set (j := pre.length) (v := .int .i64 U) HB.out hg5)
          have hst := set_mid (pre.map (fun d => (d + 999).tdiv 1000)) a U tl
          rw [List.length_map] at hst
          have HST := am_ hst
          clear hst
          go_roundw
          case rel => exact ⟨pre ++ [a], tl, by rw [len_snoc], ⟨snoc HX.out⟩, ⟨by rw [List.map_append, List.map_cons, List.map_nil, ← HU.out, ← HST.out]; have h := m5.out; rw [Int.toNat_natCast] at h; exact (by (with_reducible repeat first | apply ra_ | apply rn_ | apply rd_); exact h)⟩, ⟨(by repeat first | (with_reducible first | exact mb.out | apply ba_ | apply bn_ | apply bd_) | exact mb.out)⟩⟩
          case measure => simp [intOf]; omega
  case rest =>
    obtain ⟨g5, c5, rfl, HO5, HB⟩ := hcut
    have HC5 := am_ (R_cap HO5.out)
    obtain ⟨W5, hW5⟩ : ∃ W5, W5 = weightsL ds := ⟨_, rfl⟩
    have HL5 := am_ (show ds.length = W5.length from by rw [hW5, weightsL_length])
    rw [← hW5] at HO5 HWK HSH HCT
    have HSC := am_ (shares_c g5 0 c5 W5 t)
    have HDF := am_ (show divideA ds t = fillL (t - sumI (cutL (shareA t W5) ds)) (cutL (shareA t W5) ds) ds from by rw [hW5]; rfl)
    have hsl := shareA_length t W5
    rw [← HL5.out] at hsl
    obtain ⟨SH, hSH⟩ : ∃ SH, SH = shareA t W5 := ⟨_, rfl⟩
    rw [← hSH] at HDF HSH HCT hsl
    have HSL := am_ hsl
    have ESH := am_ hSH
    clear hW5 hSH hsl
    go_wp2_with fail
    refine calls_of_args (args' := #[.int .i64 t, .slice (some ⟨g5, 0, none⟩) W5.length c5]) (by rw [HL5.out]) ?_
    refine (HSC.out _ (by rw [← HL5.out]; exact (by repeat first | exact (R_C HO5.out) | with_reducible refine ca_ ?_ _ | with_reducible refine cn_ ?_ _ | with_reducible refine cd_ ?_)) (by rw [← HL5.out]; exact HC5.out) HT.out (fun x q => ⟨(HWK.out.1 x q).1, by have := (HWK.out.1 x q).2; omega⟩) HWK.out.2 (by rw [← HL5.out]; exact hn)).mono ?_
    rw [← ESH.out]
    rintro e w3 ⟨v8_, rfl, ho, hb⟩
    have HO8 := am_ (Kd.R_lower ho (show w.heap.size ≤ _ from below_size (by repeat first | (with_reducible first | exact HB.out | apply ba_ | apply bn_ | apply bd_) | exact HB.out)))
    have n_ := am_ (below_step (by repeat first | (with_reducible first | exact HB.out | apply ba_ | apply bn_ | apply bd_) | exact HB.out) hb)
    clear HB ho hb HO5
    have HB := n_
    clear n_
    obtain ⟨g8, c8, e8, hg8, _, _⟩ := Kd.R_form HO8.out (by have := HSL.out; have := HP.out; omega)
    rw [HSL.out] at e8
    subst e8
    obtain ⟨CUT, hCUT⟩ : ∃ C, C = cutL SH ds := ⟨_, rfl⟩
    have HCUT := am_ hCUT.symm
    rw [← hCUT] at HDF HCT
    have HDN := am_ (show ∀ d ∈ ds, 0 ≤ d from fun d q => (HD.out d q).1)
    obtain ⟨LF, hLF⟩ : ∃ L, L = t - sumI CUT := ⟨_, rfl⟩
    have HLF := am_ (show t - sumI (cutL SH ds) = LF from by rw [← hCUT]; exact hLF.symm)
    have HL0 := am_ (show 0 ≤ LF from by have h1 := HCT.out.2; have h2 := HSH.out.1; rw [hLF]; omega)
    rw [← hLF] at HDF
    have HLE := am_ hLF
    have t0 := HT.out.1
    have t1 := HT.out.2
    clear hCUT hLF
    go_wp2_with fail
    go_loopw [9, 38] (fun v9 v38 wr => ∃ (dn q dp dq : List Int) (L : Int), v38 = .int .i64 dn.length ∧ v9 = .int .i64 L ∧ Aside0 (ds = dp ++ dq) ∧ Aside0 (dn.length = dp.length) ∧ Aside0 (q.length = dq.length) ∧ Aside0 (∀ x ∈ q, 0 ≤ x ∧ x ≤ 1000000000) ∧ Aside0 (dn ++ cutL q dq = CUT) ∧ Aside0 (L - sumI (cutL q dq) = LF) ∧ Aside0 (L ≤ t) ∧ Aside0 ((Kd.int .i64).R 3 wr w.heap.size (fun _ => True) (.slice (some ⟨g8, 0, none⟩) ds.length c8) (dn ++ q)) ∧ Aside0 (Below w.heap.size w wr)) (fun _ v38 _ => ds.length - (intOf v38).toNat)
    case atStart => exact ⟨[], SH, [], ds, t, rfl, rfl, ⟨rfl⟩, ⟨rfl⟩, HSL, ⟨fun x hx => ⟨HSH.out.2 x hx, by have := sumI_mem SH HSH.out.2 x hx; have := HSH.out.1; omega⟩⟩, ⟨HCUT.out⟩, HLF, ⟨Int.le_refl _⟩, ⟨(by (with_reducible repeat first | apply ra_ | apply rn_ | apply rd_); exact HO8.out)⟩, ⟨(by repeat first | (with_reducible first | exact HB.out | apply ba_ | apply bn_ | apply bd_) | exact HB.out)⟩⟩
    case round =>
      clear HO8 HB
      obtain ⟨dn, q, dp, dq, L, rfl, rfl, HX, HNL, HQL, HQB, HCU, HLL, HLT, HO8, HB⟩ := hrel
      cases dq with
      | nil =>
        obtain rfl : q = [] := List.length_eq_zero_iff.mp HQL.out
        have hx_ : ds = dp := by simpa using HX.out
        have hdn : dn = CUT := by simpa [cutL] using HCU.out
        have hL : L = LF := by have := HLL.out; simpa [cutL, sumI] using this
        subst hL
        have HO9 := am_ (show (Kd.int .i64).R 3 wr w.heap.size (fun _ => True) (.slice (some ⟨g8, 0, none⟩) ds.length c8) CUT from by
          have h := HO8.out
          rw [List.append_nil, hdn] at h
          exact h)
        have HKL := am_ (show dn.length = ds.length from by rw [HNL.out, hx_])
        have c1 : decide (dn.length < ds.length) = false := decide_eq_false (by have := HKL.out; omega)
        have c2 : ¬ dn.length < ds.length := by have := HKL.out; omega
        have l1 := HLT.out
        have l0 := HL0.out
        have HCL8 := am_ (show CUT.length = ds.length from by rw [← hdn]; exact HKL.out)
        have HFT := am_ HCT.out.1
        clear hx_ hdn HO8 HX HNL HQL HQB HCU HLL HLT HLF
        go_wp2_with fail
        go_loopw [9, 62] (fun v9 v62 wr => ∃ (dn q dp dq : List Int) (L2 : Int), v62 = .int .i64 dn.length ∧ v9 = .int .i64 L2 ∧ Aside0 (ds = dp ++ dq) ∧ Aside0 (dn.length = dp.length) ∧ Aside0 (Fits q dq) ∧ Aside0 (dn ++ fillL L2 q dq = divideA ds t) ∧ Aside0 (0 ≤ L2 ∧ L2 ≤ t) ∧ Aside0 ((Kd.int .i64).R 3 wr w.heap.size (fun _ => True) (.slice (some ⟨g8, 0, none⟩) ds.length c8) (dn ++ q)) ∧ Aside0 (Below w.heap.size w wr)) (fun _ v62 _ => ds.length - (intOf v62).toNat)
        case atStart => exact ⟨[], CUT, [], ds, L, rfl, rfl, ⟨rfl⟩, ⟨rfl⟩, HFT, ⟨HDF.out.symm⟩, ⟨l0, l1⟩, ⟨(by (with_reducible repeat first | apply ra_ | apply rn_ | apply rd_); exact HO9.out)⟩, ⟨(by repeat first | (with_reducible first | exact HB.out | apply ba_ | apply bn_ | apply bd_) | exact HB.out)⟩⟩
        case round =>
          clear HO9 HB l0 l1 HKL c1 c2
          obtain ⟨dn, q, dp, dq, L2, rfl, rfl, HX, HNL, HFT2, HFL, HLB, HO8, HB⟩ := hrel
          cases dq with
          | nil =>
            cases q with
            | cons o q2 => exact HFT2.out.elim
            | nil =>
              have hx_ : ds = dp := by simpa using HX.out
              have HO9 := am_ (show (Kd.int .i64).R 3 wr w.heap.size (fun _ => True) (.slice (some ⟨g8, 0, none⟩) ds.length c8) (divideA ds t) from by
                have h := HO8.out
                have e : dn ++ [] = divideA ds t := HFL.out
                rw [e] at h
                exact h)
              have c1 : decide (dn.length < ds.length) = false := decide_eq_false (by have := HNL.out; rw [hx_]; omega)
              clear hx_ HO8 HX HNL HFT2 HFL
              go_wp2
              go_ret
              exact ⟨_, rfl, (by (with_reducible repeat first | apply ra_ | apply rn_ | apply rd_); exact HO9.out), (by repeat first | (with_reducible first | exact HB.out | apply ba_ | apply bn_ | apply bd_) | exact HB.out)⟩
          | cons d dq2 =>
            cases q with
            | nil => exact HFT2.out.elim
            | cons o q2 =>
              have hl := len_cons HX.out
              have hpl : (dn.length : Int) < ds.length := by have := HNL.out; omega
              have hd := HD.out d (by rw [HX.out]; simp)
              have ho := HFT2.out.1
              have HFT3 := am_ HFT2.out.2
              have hcx := HCL.out dn.length (by omega)
              rw [show ds.getD dn.length 0 = d from by rw [HX.out, HNL.out]; simp] at hcx
              rw [Nat.zero_add] at hcx
              have HCX := am_ hcx
              replace hcx := (HB.out.cell (World.block_lt_of_cell? w _ hcx)).trans hcx
              have hy8 : wr.cell? ⟨g8, dn.length, none⟩ = some (.int .i64 o) := by
                have h := (Kd.R_celln 0 HO8.out (dn.length : Int) (by omega) hpl).1
                rw [Int.toNat_natCast] at h
                rw [h]
                exact congrArg (fun z => some (Value.int .i64 z)) (getD_mid dn o q2)
              have hf8 := (Kd.R_celln 0 HO8.out (dn.length : Int) (by omega) hpl).2
              rw [Int.toNat_natCast] at hf8
              have lb0 := HLB.out.1
              have lb1 := HLB.out.2
              obtain ⟨mv, hmv⟩ : ∃ mv, mv = (if L2 < d - o then L2 else d - o) := ⟨_, rfl⟩
              have hmin : (if d - o < L2 then d - o else L2) = mv := by rw [hmv]; split <;> split <;> omega
              have m0 : 0 ≤ mv := by rw [hmv]; split <;> omega
              have m1 : mv ≤ L2 := by rw [hmv]; split <;> omega
              have m2 : o + mv ≤ d := by rw [hmv]; split <;> omega
              have o0 := ho.1
              have o1 := ho.2
              have d1 := hd.2
              have hfl := HFL.out
              rw [fillL, ← hmv, ← List.singleton_append, ← List.append_assoc] at hfl
              have HFL2 := am_ hfl
              have c1 : decide (dn.length < ds.length) = true := decide_eq_true (by omega)
              have p0 : (0 : Int) ≤ (dn.length : Int) := by omega
              have tn : (dn.length : Int).toNat = dn.length := Int.toNat_natCast _
              have HST := am_ (set_mid dn o (o + mv) q2)
              have HSX := am_ (snoc HX.out)
              clear hl hd ho hmv hfl
              go_upto_region 19 with (fail)
              go_region
              go_wp2
              have hp9 := Kd.R_putn HO8.out (dn.length : Int) (o + mv)
              rw [Int.toNat_natCast, HST.out] at hp9
              have HO9 := am_ hp9
              have HB9 := am_ (below_set (j := dn.length) (v := .int .i64 (o + mv)) HB.out hg8)
              clear hp9
              go_roundw
              case rel => exact ⟨dn ++ [o + mv], q2, dp ++ [d], dq2, L2 - mv, by rw [len_snoc], by go_num, HSX, ⟨by rw [List.length_append, List.length_append, HNL.out]; rfl⟩, HFT3, HFL2, ⟨by omega, by omega⟩, ⟨(by (with_reducible repeat first | apply ra_ | apply rn_ | apply rd_); exact HO9.out)⟩, ⟨(by repeat first | (with_reducible first | exact HB9.out | apply ba_ | apply bn_ | apply bd_) | exact HB9.out)⟩⟩
              case measure => simp [intOf]; omega
      | cons d dq2 =>
        cases q with
        | nil => exact absurd HQL.out (by simp)
        | cons o q2 =>
          have hl := len_cons HX.out
          have hpl : (dn.length : Int) < ds.length := by have := HNL.out; omega
          have hd := HD.out d (by rw [HX.out]; simp)
          have ho := HQB.out o List.mem_cons_self
          have hcx := HCL.out dn.length (by omega)
          rw [show ds.getD dn.length 0 = d from by rw [HX.out, HNL.out]; simp] at hcx
          rw [Nat.zero_add] at hcx
          replace hcx := (HB.out.cell (World.block_lt_of_cell? w _ hcx)).trans hcx
          have hy8 : wr.cell? ⟨g8, dn.length, none⟩ = some (.int .i64 o) := by
            have h := (Kd.R_celln 0 HO8.out (dn.length : Int) (by omega) hpl).1
            rw [Int.toNat_natCast] at h
            rw [h]
            exact congrArg (fun z => some (Value.int .i64 z)) (getD_mid dn o q2)
          have hf8 := (Kd.R_celln 0 HO8.out (dn.length : Int) (by omega) hpl).2
          rw [Int.toNat_natCast] at hf8
          obtain ⟨mv, hmv⟩ : ∃ mv, mv = (if d < o then d else o) := ⟨_, rfl⟩
          have hmin : (if d < o then d else o) = mv := hmv.symm
          have m0 : 0 ≤ mv := by rw [hmv]; split <;> omega
          have hss := cutL_sum_nonneg q2 dq2 (fun x hx => (HQB.out x (List.mem_cons_of_mem _ hx)).1) (fun x hx => HDN.out x (by rw [HX.out]; simp [hx]))
          have hll := HLL.out
          rw [cutL, sumI, hmin] at hll
          have hcu := HCU.out
          rw [cutL, hmin, ← List.singleton_append, ← List.append_assoc] at hcu
          have HCU2 := am_ hcu
          have HLL2 := am_ (show L - mv - sumI (cutL q2 dq2) = LF from by omega)
          have l0 := HL0.out
          have l1 := HLT.out
          have l2 : 0 ≤ L - mv := by omega
          have c1 : decide (dn.length < ds.length) = true := decide_eq_true (by omega)
          have p0 : (0 : Int) ≤ (dn.length : Int) := by omega
          have tn : (dn.length : Int).toNat = dn.length := Int.toNat_natCast _
          have hst := set_mid dn o mv q2
          have HST := am_ hst
          have HSX := am_ (snoc HX.out)
          clear hl hd ho hmv hss hll hcu hst
          go_upto_region 13 with (fail)
          go_region
          clear hy8 hf8 hcx
          have hp9 := Kd.R_putn HO8.out (dn.length : Int) mv
          rw [Int.toNat_natCast, HST.out] at hp9
          have HO9 := am_ hp9
          have HB9 := am_ (below_set (j := dn.length) (v := .int .i64 mv) HB.out hg8)
          clear hp9
          generalize wr.setCell ⟨g8, dn.length, none⟩ (.int .i64 mv) = wr1 at HO9 HB9 ⊢
          have hy8 : wr1.cell? ⟨g8, dn.length, none⟩ = some (.int .i64 mv) := by
            have h := (Kd.R_celln 0 HO9.out (dn.length : Int) (by omega) hpl).1
            rw [Int.toNat_natCast] at h
            rw [h]
            exact congrArg (fun z => some (Value.int .i64 z)) ((congrArg (fun l : List Int => l.getD dn.length 0) (List.append_assoc dn [mv] q2)).trans (getD_mid dn mv q2))
          go_wp2
          go_roundw
          case rel => exact ⟨dn ++ [mv], q2, dp ++ [d], dq2, L - mv, by rw [len_snoc], by go_num, HSX, ⟨by rw [List.length_append, List.length_append, HNL.out]; rfl⟩, ⟨by have := HQL.out; simpa using this⟩, ⟨fun x hx => HQB.out x (List.mem_cons_of_mem _ hx)⟩, HCU2, HLL2, ⟨by omega⟩, ⟨(by (with_reducible repeat first | apply ra_ | apply rn_ | apply rd_); exact HO9.out)⟩, ⟨(by repeat first | (with_reducible first | exact HB9.out | apply ba_ | apply bn_ | apply bd_) | exact HB9.out)⟩⟩
          case measure => simp [intOf]; omega
end Go.Proofs.Ytbnhpkkkijjkkaa.O
