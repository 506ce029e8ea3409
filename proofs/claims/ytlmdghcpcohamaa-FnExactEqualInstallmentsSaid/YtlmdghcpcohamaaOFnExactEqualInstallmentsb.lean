/- Walks of our own, a part of those for the law FnExactEqualInstallments: each function's contract in plain Lean. No condition beyond the bounds that each contract names. -/
import Derived.Test.YtlmdghcpcohamaaPureFnExactEqualInstallments
import Derived.Sort.LotA
import Derived.Shelf.SlSortCmp.Insertion1
import Derived.Shelf.SlicesE.IndexFunc
import Derived.Laws.IdiomCopy
import Derived.Shelf.SlLaysF
import Derived.Shelf.SlLaysH
import Derived.Test.YtlmdghcpcohamaaOFnExactEqualInstallmentsa
namespace Go.Proofs.Ytlmdghcpcohamaa.O
open Go.RowKit Go.Proofs.YtlmdghcpcohamaaW.PrintWords Go.Proofs.YtlmdghcpcohamaaW.PrintLast Go.Proofs.YtlmdghcpcohamaaW.PrintMore Go.Proofs.Ytlmdghcpcohamaa.PL14E Go.Proofs.Ytlmdghcpcohamaa.EvKit Go.Proofs.Ytlmdghcpcohamaa.Pure
set_option linter.unusedVariables false
set_option linter.unusedSimpArgs false
attribute [local go_sem] max2_int min2_int max_two min_two max_three min_three max_four min_four
def shwB (x : Int) : Bool := decide (0 ≤ x ∧ x ≤ 1000000)
theorem sharePred (w : World) : PredAt Try.prog 96 #[] (Value.int .i64) (fun x => !shwB x) w := fun W x _ => by
  unfold FnGives
  have h : impl_within.f x 0 1000000 = some (shwB x) := by rw [within_eq]; rfl
  go_enter Try.func96, Try.ntmps96
  go_wp2_with (go_at_call 63; refine (impl_within.calls x 0 1000000 _ _ h).mono ?_; rintro e w' ⟨rfl, ⟨n, rfl⟩⟩)
  go_ret
  exact ⟨rfl, n, rfl⟩
set_option maxHeartbeats 16000000 in
set_option maxRecDepth 100000 in
theorem shareI_c (b c : Nat) (ws : List Int) (t : Int) (w : World) (hr : (Kd.int .i64).C w (some ⟨b, 0, none⟩) ws.length ws) (hc : ws.length ≤ c) (hw : ∀ x ∈ ws, 0 ≤ x ∧ x ≤ 1000000) (hl : 1 ≤ ws.length ∧ ws.length ≤ 20) (hs : 0 < sumI ws) :
    Calls Try.prog 68 #[.int .i64 t, .slice (some ⟨b, 0, none⟩) ws.length c] w fun e w' => ∃ v, e = .returned (.tuple #[v, .bool (decide (0 ≤ t ∧ t ≤ 1000000000))]) ∧ (Kd.int .i64).R 3 w' w.heap.size (fun _ => True) v (if 0 ≤ t ∧ t ≤ 1000000000 then shareA t ws else []) ∧ Below w.heap.size w w' := by
  have EG := am_ (show ∀ args w, (callFunc 96 args).run Try.prog w = .ok (.enter 96 args) w from enters_of Try.func96 (by kernel_rfl) rfl)
  have HB := am_ (Below.refl w.heap.size w)
  have HR := am_ hr
  have HC := am_ hc
  have hw1 := within_eq t 0 1000000000
  have hw2 := within_eq (ws.length : Int) 1 20
  rw [decide_eq_true (show 1 ≤ (ws.length : Int) ∧ (ws.length : Int) ≤ 20 by omega)] at hw2
  have HW2 := am_ hw2
  have hany : ws.any (fun x => !shwB x) = false := by
    rw [List.any_eq_false]
    intro x hx
    simp [shwB, hw x hx]
  have HANY := am_ hany
  have HW9 := am_ (show ∀ x ∈ ws, 0 ≤ x ∧ x ≤ 1000000000 from fun x hx => by have := hw x hx; omega)
  have l0 := hl.1
  have l1 := hl.2
  have HS := am_ hs
  have s1 : ((sumI ws) == 0) = false := by simp; omega
  have s2 : decide (sumI ws = 0) = false := decide_eq_false (by omega)
  clear hr hc hw hl hw2 hany hs
  by_cases ht : 0 ≤ t ∧ t ≤ 1000000000
  · rw [decide_eq_true ht] at hw1
    have HW1 := am_ hw1
    have HT := am_ ht
    rw [if_pos ht, decide_eq_true ht]
    clear hw1 ht
    go_enter Try.func68, Try.ntmps68
    go_wp2_with fail
    refine (impl_within.calls t 0 1000000000 true _ HW1.out).mono ?_
    rintro e w1 ⟨rfl, ⟨q1, rfl⟩⟩
    go_wp2_with fail
    refine (impl_within.calls (ws.length : Int) 1 20 true _ HW2.out).mono ?_
    rintro e w2 ⟨rfl, ⟨q2, rfl⟩⟩
    go_wp2_with fail
    refine (containsFunc_c 96 EG.out #[] (fun x => !shwB x) (some ⟨b, 0, none⟩) c ws _ (sharePred _) (by repeat first | exact (Kd.C_below HR.out HB.out) | with_reducible refine ca_ ?_ _ | with_reducible refine cn_ ?_ _ | with_reducible refine cd_ ?_) (fun _ => ⟨b, rfl⟩)).mono ?_
    rw [HANY.out]
    rintro e w3 ⟨rfl, ⟨q3, rfl⟩⟩
    go_wp2_with fail
    refine (sumOf_c (some ⟨b, 0, none⟩) ws.length c ws _ rfl (by repeat first | exact (Kd.C_below HR.out HB.out) | with_reducible refine ca_ ?_ _ | with_reducible refine cn_ ?_ _ | with_reducible refine cd_ ?_) HC.out HW9.out (by omega)).mono ?_
    rintro e w4 ⟨rfl, ⟨q4, rfl⟩⟩
    go_wp2_with fail
    refine (shares_c b 0 c ws t _ (by repeat first | exact (Kd.C_below HR.out HB.out) | with_reducible refine ca_ ?_ _ | with_reducible refine cn_ ?_ _ | with_reducible refine cd_ ?_) HC.out HT.out HW9.out HS.out l1).mono ?_
    rintro e w5 ⟨v, rfl, ho, hb⟩
    have HO := am_ (Kd.R_lower ho (show w.heap.size ≤ _ from below_size (by repeat first | (with_reducible first | exact HB.out | apply ba_ | apply bn_ | apply bd_) | exact HB.out)))
    replace HB := am_ (below_step (by repeat first | (with_reducible first | exact HB.out | apply ba_ | apply bn_ | apply bd_) | exact HB.out) hb); clear hb
    clear ho
    go_wp2
    go_ret2
    exact ⟨_, rfl, (by (with_reducible repeat first | apply ra_ | apply rn_ | apply rd_); exact HO.out), (by repeat first | (with_reducible first | exact HB.out | apply ba_ | apply bn_ | apply bd_) | exact HB.out)⟩
  · rw [decide_eq_false ht] at hw1
    have HW1 := am_ hw1
    rw [if_neg ht, decide_eq_false ht]
    clear hw1 ht
    go_enter Try.func68, Try.ntmps68
    go_wp2_with fail
    refine (impl_within.calls t 0 1000000000 false _ HW1.out).mono ?_
    rintro e w1 ⟨rfl, ⟨q1, rfl⟩⟩
    go_wp2
    go_ret2
    exact ⟨_, rfl, Kd.R_nil _ _ _ _ _, (by repeat first | (with_reducible first | exact HB.out | apply ba_ | apply bn_ | apply bd_) | exact HB.out)⟩
/-- Numbers written one behind another from a place on. -/
def putL : List Int → Nat → List Int → List Int
  | xs, _, [] => xs
  | xs, o, v :: vs => putL (xs.set o v) (o + 1) vs
theorem R_putL {g n cap base : Nat} {ok : Nat → Prop} : ∀ (vs : List Int) (o : Nat) (w : World) (xs : List Int), (Kd.int .i64).R 3 w base ok (.slice (some ⟨g, 0, none⟩) n cap) xs → (Kd.int .i64).R 3 (w.setCells g o (vs.map (Value.int .i64))) base ok (.slice (some ⟨g, 0, none⟩) n cap) (putL xs o vs)
  | [], o, w, xs, h => h
  | v :: vs, o, w, xs, h => by
    have h1 := Kd.R_putn h (o : Int) v
    rw [Int.toNat_natCast] at h1
    exact R_putL vs (o + 1) _ _ h1
theorem below_putL {g : Nat} {w : World} (hg : w.heap.size ≤ g) : ∀ (vs : List Int) (o : Nat) (W : World), Below w.heap.size w W → Below w.heap.size w (W.setCells g o (vs.map (Value.int .i64)))
  | [], o, W, h => h
  | v :: vs, o, W, h => below_putL hg vs (o + 1) _ (below_set (j := o) (v := .int .i64 v) h hg)
theorem set_ones {m n : Nat} (h : m < n) : (List.replicate m (1 : Int) ++ List.replicate (n - m) 0).set m 1 = List.replicate (m + 1) 1 ++ List.replicate (n - (m + 1)) 0 := by
  rw [List.set_append_right m _ (by rw [List.length_replicate]; exact Nat.le_refl m), List.length_replicate, Nat.sub_self, show n - m = (n - (m + 1)) + 1 from by omega, List.replicate_succ, List.set_cons_zero, List.replicate_succ', List.append_assoc]
  rfl
theorem putL_ones : ∀ (k m n : Nat), m + k ≤ n → putL (List.replicate m (1 : Int) ++ List.replicate (n - m) 0) m (List.replicate k 1) = List.replicate (m + k) 1 ++ List.replicate (n - (m + k)) 0
  | 0, m, n, _ => rfl
  | k + 1, m, n, h => by
    rw [List.replicate_succ, putL, set_ones (by omega), putL_ones k (m + 1) n (by omega), show m + 1 + k = m + (k + 1) from by omega]
section
variable {P : Program} {ops : Array Oper} {rest : List Oper} {o : Oper} {a : Act} {Q : Exit → Act → World → Prop}
/-- copy(v[d:..], ys): the cells from place d of an own row on. -/
theorem wp_copyAt {W : World} (base : Nat) (hgd : o.guard = none) (s x : Operand) (t t' : TypeId) (ho : o.op = .call { callee := .builtin .copy, args := #[s, x], argTypes := #[t, t'] }) (ht : P.underlying t = some (.slice 3)) (hinfo : (P.info? 3).map (·.size) = some 1)
    {g n cap d dl dc sl sc : Nat} {ad : Addr} (hs : a.eval s = .slice (some ⟨g, d, none⟩) dl dc) (hx : a.eval x = .slice (some ad) sl sc) (vs : List Int) (hl : vs.length = min sl dl) (hsrc : ∀ (j : Nat) (v : Int), vs[j]? = some v → W.cell? (ad.add j) = some (.int .i64 v))
    {xs : List Int} {ok : Nat → Prop} (HO : (Kd.int .i64).R 3 W base ok (.slice (some ⟨g, 0, none⟩) n cap) xs) (hd : d + dl ≤ n)
    (h : wpList P ops Q rest (a.put o.dst (.int .i64 (vs.length : Int))) (W.setCells g d (vs.map (Value.int .i64)))) : wpList P ops Q (o :: rest) a W := by
  have hr := run_copy_cells (P := P) W t t' o.type 3 g d dl dc ad sl sc (vs.map (Value.int .i64)) ht hinfo (by rw [List.length_map]; exact hl)
    (fun j v hv => by
      rw [List.getElem?_map] at hv
      obtain ⟨y, hy, rfl⟩ := Option.map_eq_some_iff.mp hv
      exact hsrc j y hy)
    (fun j hj => by
      rw [List.length_map] at hj
      have h1 := (Kd.R_celln 0 HO ((d + j : Nat) : Int) (by omega) (by omega)).1
      rw [Int.toNat_natCast] at h1
      rw [h1]; rfl)
    (fun j hj => by
      rw [List.length_map] at hj
      have h1 := (Kd.R_celln 0 HO ((d + j : Nat) : Int) (by omega) (by omega)).2
      rw [Int.toNat_natCast] at h1
      exact h1)
    (fun v hv => by obtain ⟨y, _, rfl⟩ := List.mem_map.mp hv; rfl)
  refine wpList_plain hgd fun K hK => ?_
  unfold Oper.wp execOp
  simp only [ho, resolve, invoke, builtin, Sem.run_bind, Sem.run_pure, Result.andThen_ok, List.map_toArray, List.map_cons, List.map_nil, hs, hx, hr]
  rw [List.length_map] 
  exact hK _ _ h
end
section
variable {P : Program} {ops : Array Oper} {o : Oper} {a : Act} {Q : Exit → Act → World → Prop} {Kc : Act → World → Prop}
/-- The same inside a region that draws its order. -/
theorem copy_step {W : World} (base : Nat) (hw : Region.wanted o (yielded ops a.tmps) = true) (s x : Operand) (t t' : TypeId) (ho : o.op = .call { callee := .builtin .copy, args := #[s, x], argTypes := #[t, t'] }) (ht : P.underlying t = some (.slice 3)) (hinfo : (P.info? 3).map (·.size) = some 1)
    {g n cap d dl dc sl sc : Nat} {ad : Addr} (hs : a.eval s = .slice (some ⟨g, d, none⟩) dl dc) (hx : a.eval x = .slice (some ad) sl sc) (vs : List Int) (k : Nat) (hl : vs.length = min sl dl) (hk : vs.length = k) (hsrc : ∀ (j : Nat) (v : Int), vs[j]? = some v → W.cell? (ad.add j) = some (.int .i64 v))
    {xs : List Int} {ok : Nat → Prop} (HO : (Kd.int .i64).R 3 W base ok (.slice (some ⟨g, 0, none⟩) n cap) xs) (hd : d + dl ≤ n)
    (h : Kc (a.put o.dst (.int .i64 (k : Int))) (W.setCells g d (vs.map (Value.int .i64)))) : if Region.wanted o (yielded ops a.tmps) = true then Oper.wp P o a W Kc Q else Kc (a.put o.dst undef) W := by
  have hr := run_copy_cells (P := P) W t t' o.type 3 g d dl dc ad sl sc (vs.map (Value.int .i64)) ht hinfo (by rw [List.length_map]; exact hl)
    (fun j v hv => by
      rw [List.getElem?_map] at hv
      obtain ⟨y, hy, rfl⟩ := Option.map_eq_some_iff.mp hv
      exact hsrc j y hy)
    (fun j hj => by
      rw [List.length_map] at hj
      have h1 := (Kd.R_celln 0 HO ((d + j : Nat) : Int) (by omega) (by omega)).1
      rw [Int.toNat_natCast] at h1
      rw [h1]; rfl)
    (fun j hj => by
      rw [List.length_map] at hj
      have h1 := (Kd.R_celln 0 HO ((d + j : Nat) : Int) (by omega) (by omega)).2
      rw [Int.toNat_natCast] at h1
      exact h1)
    (fun v hv => by obtain ⟨y, _, rfl⟩ := List.mem_map.mp hv; rfl)
  rw [if_pos hw]
  unfold Oper.wp execOp
  simp only [ho, resolve, invoke, builtin, Sem.run_bind, Sem.run_pure, Result.andThen_ok, List.map_toArray, List.map_cons, List.map_nil, hs, hx, hr]
  rw [List.length_map, hk]
  exact h
end
def tab69_9_T : Bool × List (List Nat × List Nat) := (true, [([], []), ([], []), ([], []), ([1, 2], [1, 2]), ([], []), ([], []), ([4, 5], [4, 5]), ([3, 6], [3, 6]), ([0, 7], [0, 7]), ([8, 7, 0, 1, 2, 3, 4, 5, 6, 7, 8], [0, 2, 5, 8])])
def tab69_9_B : List Nat := [0, 0, 0, 6, 0, 0, 48, 126, 255, 511]
theorem tab69_9_t : rtab .any (opsOf Try.f69 9) = tab69_9_T := by kernel_rfl
theorem tab69_9_b : waitsOk tab69_9_T.2 tab69_9_B = true := by kernel_rfl
theorem onesAt {w : World} {base g n cap q k : Nat} {ok : Nat → Prop} (h : (Kd.int .i64).R 3 w base ok (.slice (some ⟨g, 0, none⟩) n cap) (List.replicate q 1 ++ List.replicate (n - q) 0)) (hk : k ≤ q) : ∀ (j : Nat) (v : Int), (List.replicate k (1 : Int))[j]? = some v → w.cell? ((⟨g, 0, none⟩ : Addr).add j) = some (.int .i64 v) := by
  intro j v hv
  have hjk : j < k := by
    have := (List.getElem?_eq_some_iff.mp hv).1
    rwa [List.length_replicate] at this
  rw [List.getElem?_replicate, if_pos hjk] at hv
  obtain rfl := Option.some.inj hv
  have hn : n = (List.replicate q (1 : Int) ++ List.replicate (n - q) 0).length := (Kd.R_reads' h).1
  rw [List.length_append, List.length_replicate, List.length_replicate] at hn
  have h1 := (Kd.R_celln 0 h (j : Int) (by omega) (by omega)).1
  rw [Int.toNat_natCast, rdOf, Int.toNat_natCast, List.getD_eq_getElem?_getD, List.getElem?_append_left (by rw [List.length_replicate]; omega), List.getElem?_replicate, if_pos (by omega)] at h1
  rw [Addr.add_lit, Nat.zero_add]
  exact h1
theorem infoI1 : (Try.prog.info? 3).map (·.size) = some 1 := by kernel_rfl
set_option maxHeartbeats 16000000 in
set_option maxRecDepth 100000 in
/-- slices.Repeat of one 1. -/
theorem repeat_c (b c : Nat) (n : Int) (hn : 1 ≤ n ∧ n ≤ 20) (w : World) (hr : (Kd.int .i64).C w (some ⟨b, 0, none⟩) 1 [1]) :
    Calls Try.prog 69 #[.slice (some ⟨b, 0, none⟩) 1 c, .int .i64 n] w fun e w' => ∃ v, e = .returned v ∧ (Kd.int .i64).R 3 w' w.heap.size (fun _ => True) v (List.replicate n.toNat 1) ∧ Below w.heap.size w w' := by
  have HB := am_ (Below.refl w.heap.size w)
  have HR := am_ hr
  have HM := am_ (mulOne hn)
  have n0 := hn.1
  have n1 := hn.2
  have c0 : decide (n < 0) = false := decide_eq_false (by omega)
  have c1 : decide ((9223372036854775807 : Int) < n) = false := decide_eq_false (by omega)
  obtain ⟨m, hm⟩ : ∃ m, m = n.toNat := ⟨_, rfl⟩
  have hmn : (m : Int) = n := by omega
  rw [← hm]
  have HMN := am_ hm
  clear hr hn hm
  go_enter Try.func69, Try.ntmps69
  go_wp2_with fail
  -- HERE1
  refine (bits_Mul.calls 1 n 0 n _ HM.out).mono ?_
  rintro e w1 ⟨rfl, hb0⟩
  have hb := db_ hb0
  clear hb0
  replace HB := am_ (below_step (by repeat first | (with_reducible first | exact HB.out | apply ba_ | apply bn_ | apply bd_) | exact HB.out) hb); clear hb
  go_wp2_with (first
    | (((with_reducible refine gate_dst (N := 30) rfl ?_); refine Kd.R_make (Kd.int .i64) w.heap.size 3 rfl (N := 30) rfl 32 _ _ rfl n rfl rfl Try.underlying32 (.int .i64 0) 8 infoI rfl (by decide) (by omega) 0 (ok := fun _ => True) (okp := fun _ => True) rfl (fun _ hk => hk) trivial (by omega) (by omega) (by repeat first | (with_reducible first | exact HB.out | apply ba_ | apply bn_ | apply bd_) | exact HB.out) (below_size (by repeat first | (with_reducible first | exact HB.out | apply ba_ | apply bn_ | apply bd_) | exact HB.out)) ?_; intro v1 w1 ho hb _ _); rw [HMN.out.symm] at ho; obtain ⟨g, cap, hv, hg1, hg2, cells, hg3⟩ := Kd.R_form ho (by rw [List.length_replicate]; omega); rw [List.length_replicate] at hv; subst hv; have HO := am_ ho; clear HB; have HB := am_ hb; have HG := am_ hg1; clear ho hb hg1 hg2 hg3 cells)
    | ((with_reducible refine gate_builtin (b := .copy) (xs := #[.tmp 31, .tmp 32]) rfl ?_); refine Aside0.out ?_))
  refine am_ ?_
  refine Kd.R_copy (0 : Int) (w0 := w) w.heap.size rfl (.tmp 31) (.tmp 32) 32 32 3 rfl Try.underlying32 infoI1 (.slice (some ⟨g, 0, none⟩) m cap) (List.replicate m (0 : Int)) [1] (some ⟨b, 0, none⟩) 1 c (fun _ => True) rfl rfl (by (with_reducible repeat first | apply ra_ | apply rn_ | apply rd_); exact HO.out) (by repeat first | exact (Kd.C_below HR.out HB.out) | with_reducible refine ca_ ?_ _ | with_reducible refine cn_ ?_ _ | with_reducible refine cd_ ?_) (by repeat first | (with_reducible first | exact HB.out | apply ba_ | apply bn_ | apply bd_) | exact HB.out) (below_size (by repeat first | (with_reducible first | exact HB.out | apply ba_ | apply bn_ | apply bd_) | exact HB.out)) ?_
  intro w2 ho hb hg
  rw [List.length_replicate, show min 1 m = 1 from by omega] at *
  have HO2 := am_ (show (Kd.int .i64).R 3 w2 w.heap.size (fun _ => True) (.slice (some ⟨g, 0, none⟩) m cap) (List.replicate 1 1 ++ List.replicate (m - 1) 0) from by
    have h := ho
    rw [List.drop_replicate] at h
    exact h)
  have HB2 := am_ hb
  clear ho hb hg HO HB
  go_wp2_with fail
  -- HERE2
  go_loopw [8] (fun v8 wr => ∃ q : Nat, v8 = .int .i64 q ∧ Aside0 (1 ≤ q ∧ q ≤ m) ∧ Aside0 ((Kd.int .i64).R 3 wr w.heap.size (fun _ => True) (.slice (some ⟨g, 0, none⟩) m cap) (List.replicate q 1 ++ List.replicate (m - q) 0)) ∧ Aside0 (Below w.heap.size w wr)) (fun v8 _ => m - (intOf v8).toNat)
  case atStart => exact ⟨1, rfl, ⟨by omega⟩, ⟨(by (with_reducible repeat first | apply ra_ | apply rn_ | apply rd_); exact HO2.out)⟩, ⟨(by repeat first | (with_reducible first | exact HB2.out | apply ba_ | apply bn_ | apply bd_) | exact HB2.out)⟩⟩
  case round =>
    clear HO2 HB2
    obtain ⟨q, rfl, HQ, HO, HB⟩ := hrel
    have q0 := HQ.out.1
    have q1 := HQ.out.2
    by_cases hq : q < m
    · have d1 : decide (q < m) = true := decide_eq_true hq
      have d2 : decide ((q : Int) < (m : Int)) = true := decide_eq_true (by omega)
      obtain ⟨k, hk⟩ : ∃ k, k = min q (m - q) := ⟨_, rfl⟩
      have k0 : 1 ≤ k := by omega
      have k1 : k ≤ q := by omega
      have k2 : q + k ≤ m := by omega
      have tn : (q : Int).toNat = q := Int.toNat_natCast q
      have hcap := R_cap HO.out
      have hqn : (q : Int) ≤ n := by omega
      have hcq : ¬ cap = q := by have := (Kd.R_reads' HO.out).2.1; omega
      have hqc : q ≤ cap := by have := (Kd.R_reads' HO.out).2.1; omega
      have hw : wrap64 ((q : Int) + (k : Int)) = ((q + k : Nat) : Int) := by rw [wrapId (by omega)]; omega
      have HK := am_ hk
      clear hk
      go_upto_region 9 with (fail)
      -- HERE3
      refine start_ (n := 10) (S := fun w' => True) (ds := [7]) #[false, false, false, false, false, false, false, false, false, false] (by kernel_rfl) rfl rfl True.intro (fun hHeld => ?_)
      refine with_tabW tab69_9_t tab69_9_b (fun HT_ HW_ => ?_)
      have n_ := am_ (Kd.R_drew HO.out); clear HO; have HO := n_; clear n_
      have n_ := am_ (below_drew1 HB.out); clear HB; have HB := n_; clear n_
      generalize wr.drew = wq_ at HO HB hHeld ⊢
      refine pure_ (i := 0) (N := some 38) (v := ?_) (a' := ?_) #[true, false, false, false, false, false, false, false, false, false] rfl rfl (any_of HT_.out (by kernel_rfl)) (fun _ _ _ h => h) (Or.inl ⟨by rfl, ?_⟩) ?_ ?_
      rotate_left
      focus (intro w'; go_simp; with_reducible rfl)
      rotate_left
      focus (simp only [Act.put, List.setIfInBounds_toArray, List.set_cons_zero, List.set_cons_succ, i64_w, i32_w]; rfl)
      refine pure_ (i := 1) (N := some 39) (v := ?_) (a' := ?_) #[true, true, false, false, false, false, false, false, false, false] rfl rfl (any_of HT_.out (by kernel_rfl)) (fun _ _ _ h => h) (Or.inl ⟨by rfl, ?_⟩) ?_ ?_
      rotate_left
      focus (intro w'; go_simp; with_reducible rfl)
      rotate_left
      focus (simp only [Act.put, List.setIfInBounds_toArray, List.set_cons_zero, List.set_cons_succ, i64_w, i32_w]; rfl)
      refine pure_ (i := 2) (N := some 40) (v := ?_) (a' := ?_) #[true, true, true, false, false, false, false, false, false, false] rfl rfl (any_of HT_.out (by kernel_rfl)) (fun _ _ _ h => h) (Or.inl ⟨by rfl, ?_⟩) ?_ ?_
      rotate_left
      focus (intro w'; go_simp; with_reducible rfl)
      rotate_left
      focus (simp only [Act.put, List.setIfInBounds_toArray, List.set_cons_zero, List.set_cons_succ, i64_w, i32_w]; rfl)
      refine pure_ (i := 3) (N := some 41) (v := ?_) (a' := ?_) #[true, true, true, true, false, false, false, false, false, false] rfl rfl (any_of HT_.out (by kernel_rfl)) (fun _ _ _ h => h) (Or.inl ⟨by rfl, ?_⟩) ?_ ?_
      rotate_left
      focus (intro w'; go_simp; with_reducible rfl)
      rotate_left
      focus (simp only [Act.put, List.setIfInBounds_toArray, List.set_cons_zero, List.set_cons_succ, i64_w, i32_w]; rfl)
      refine pure_ (i := 4) (N := some 42) (v := ?_) (a' := ?_) #[true, true, true, true, true, false, false, false, false, false] rfl rfl (any_of HT_.out (by kernel_rfl)) (fun _ _ _ h => h) (Or.inl ⟨by rfl, ?_⟩) ?_ ?_
      rotate_left
      focus (intro w'; go_simp; with_reducible rfl)
      rotate_left
      focus (simp only [Act.put, List.setIfInBounds_toArray, List.set_cons_zero, List.set_cons_succ, i64_w, i32_w]; rfl)
      refine pure_ (i := 5) (N := some 43) (v := ?_) (a' := ?_) #[true, true, true, true, true, true, false, false, false, false] rfl rfl (any_of HT_.out (by kernel_rfl)) (fun _ _ _ h => h) (Or.inl ⟨by rfl, ?_⟩) ?_ ?_
      rotate_left
      focus (intro w'; go_simp; with_reducible rfl)
      rotate_left
      focus (simp only [Act.put, List.setIfInBounds_toArray, List.set_cons_zero, List.set_cons_succ, i64_w, i32_w]; rfl)
      refine pure_ (i := 6) (N := some 44) (v := ?_) (a' := ?_) #[true, true, true, true, true, true, true, false, false, false] rfl rfl (any_of HT_.out (by kernel_rfl)) (fun _ _ _ h => h) (Or.inl ⟨by rfl, ?_⟩) ?_ ?_
      rotate_left
      focus (intro w'; go_simp; with_reducible rfl)
      rotate_left
      focus (simp only [Act.put, List.setIfInBounds_toArray, List.set_cons_zero, List.set_cons_succ, i64_w, i32_w]; rfl)
      refine last_ (i := 7) (N := some 45) #[true, true, true, true, true, true, true, true, false, false] rfl rfl (one_of HT_.out (by kernel_rfl)) (by decide) (fun K hK => ?_)
      refine copy_step w.heap.size (by rfl) (.tmp 41) (.tmp 44) 32 32 rfl Try.underlying32 infoI1 rfl rfl (List.replicate k 1) k (by rw [List.length_replicate]; exact HK.out) List.length_replicate (onesAt HO.out k1) HO.out (by omega) ?_
      refine hK.out _ _ ?_
      clear hK K
      refine norm_ (a' := ?_) ?_ ?_
      rotate_left
      focus (show Act.put _ (some 45) _ = _; simp only [Act.put, List.setIfInBounds_toArray, List.set_cons_zero, List.set_cons_succ, i64_w, i32_w]; rfl)
      refine pure_ (i := 8) (N := some 46) (v := ?_) (a' := ?_) #[true, true, true, true, true, true, true, true, true, false] rfl rfl (any_of HT_.out (by kernel_rfl)) (fun _ _ _ h => h) (Or.inl ⟨by rfl, ?_⟩) ?_ ?_
      rotate_left
      focus (intro w'; go_simp; with_reducible rfl)
      rotate_left
      focus (simp only [Act.put, List.setIfInBounds_toArray, List.set_cons_zero, List.set_cons_succ, i64_w, i32_w]; rfl)
      refine pure_ (i := 9) (N := some 8) (v := ?_) (a' := ?_) #[true, true, true, true, true, true, true, true, true, true] rfl rfl (any_of HT_.out (by kernel_rfl)) (fun _ _ _ h => h) (Or.inl ⟨by rfl, ?_⟩) ?_ ?_
      rotate_left
      focus (intro w'; go_simp; with_reducible rfl)
      rotate_left
      focus (simp only [Act.put, List.setIfInBounds_toArray, List.set_cons_zero, List.set_cons_succ, i64_w, i32_w]; rfl)
      refine done_ (done_of HT_.out (by kernel_rfl)) ?_
      have HO2 := am_ (show (Kd.int .i64).R 3 _ w.heap.size (fun _ => True) (.slice (some ⟨g, 0, none⟩) m cap) (List.replicate (q + k) 1 ++ List.replicate (m - (q + k)) 0) from by
        have h := R_putL (List.replicate k 1) q _ _ HO.out
        rw [putL_ones k q m k2] at h
        exact h)
      have HB2 := am_ (below_putL HG.out (List.replicate k 1) q _ HB.out)
      -- HERE4
      go_wp2
      go_roundw
      case rel => exact ⟨q + k, by first | rfl | (simp only [hw]; done) | (rw [hw]; rfl), ⟨by omega⟩, ⟨(by (with_reducible repeat first | apply ra_ | apply rn_ | apply rd_); exact HO2.out)⟩, ⟨(by repeat first | (with_reducible first | exact HB2.out | apply ba_ | apply bn_ | apply bd_) | exact HB2.out)⟩⟩
      case measure => first | (simp only [intOf, hw, Int.toNat_natCast]; omega) | (simp [intOf]; omega)
    · have d1 : decide (q < m) = false := decide_eq_false hq
      have d2 : decide ((q : Int) < (m : Int)) = false := decide_eq_false (by omega)
      obtain rfl : q = m := by omega
      have HF := am_ (show (Kd.int .i64).R 3 wr w.heap.size (fun _ => True) (.slice (some ⟨g, 0, none⟩) q cap) (List.replicate q 1) from by
        have h := HO.out
        rw [Nat.sub_self, List.replicate_zero, List.append_nil] at h
        exact h)
      clear HO hq
      go_wp2
      go_ret
      exact ⟨_, rfl, (by (with_reducible repeat first | apply ra_ | apply rn_ | apply rd_); exact HF.out), (by repeat first | (with_reducible first | exact HB.out | apply ba_ | apply bn_ | apply bd_) | exact HB.out)⟩
end Go.Proofs.Ytlmdghcpcohamaa.O
