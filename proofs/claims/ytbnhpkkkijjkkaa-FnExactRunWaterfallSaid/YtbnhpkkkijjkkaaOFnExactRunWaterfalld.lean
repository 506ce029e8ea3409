/- Walks of our own, a part of those for the law FnExactRunWaterfall: each function's contract in plain Lean. No condition beyond the bounds that each contract names. -/
import Derived.Test.YtbnhpkkkijjkkaaPureFnExactRunWaterfall
import Derived.Shelf.SlicesE.IndexFunc
import Derived.Shelf.Slices.Clone
import Derived.Shelf.Slices.Turned
import Derived.Sort.LotA
import Derived.Shelf.SlSortCmp.Insertion1
import Derived.Shelf.SlLaysH
import Derived.Shelf.Lays2
import Derived.Shelf.Lays
import Derived.Shelf.SlLaysF
import Derived.Test.YtbnhpkkkijjkkaaOFnExactRunWaterfalla
import Derived.Test.YtbnhpkkkijjkkaaOFnExactRunWaterfallb
import Derived.Test.YtbnhpkkkijjkkaaOFnExactRunWaterfallc
namespace Go.Proofs.Ytbnhpkkkijjkkaa.O
open Go.RowKit Go.Proofs.YtbnhpkkkijjkkaaW.PrintWords Go.Proofs.YtbnhpkkkijjkkaaW.PrintLast Go.Proofs.YtbnhpkkkijjkkaaW.PrintMore Go.Proofs.Ytbnhpkkkijjkkaa.PL18D Go.Proofs.Ytbnhpkkkijjkkaa.EvKit Go.Proofs.Ytbnhpkkkijjkkaa.Pure
set_option linter.unusedVariables false
set_option linter.unusedSimpArgs false
attribute [local go_sem] max2_int min2_int max_two min_two max_three min_three max_four min_four
set_option maxHeartbeats 16000000 in
set_option maxRecDepth 100000 in
/-- One rank, served by the reference; the parts' row is one of the caller's own. -/
theorem rankS_c (A0 : Option Addr) (c0 : Nat) (xs : List S49) (r c : Int) (v8 : Value) (out : List Int) (w wa : World) (hr0 : Kd.C k49 w A0 xs.length xs) (hc0 : xs.length ≤ c0) (hx : ∀ a ∈ xs, okTr a) (hn : xs.length ≤ 20) (hcash : 0 ≤ c ∧ c ≤ 1000000000)
    (ho : (Kd.int .i64).R 3 wa w.heap.size (fun _ => True) v8 out) (hol : out.length = xs.length) (hb : Below w.heap.size w wa) :
    Calls Try.prog 76 #[.slice A0 xs.length c0, .int .i64 r, .int .i64 c, v8] wa fun e w' => e = .returned (.int .i64 (rankS xs r out c).2) ∧ (Kd.int .i64).R 3 w' w.heap.size (fun _ => True) v8 (rankS xs r out c).1 ∧ Below w.heap.size w w' := by
  have HR0 := am_ hr0
  have HC0 := am_ hc0
  have HX0 := am_ hx
  have HO8 := am_ ho
  have HOL := am_ hol
  have HB := am_ hb
  have HCB := am_ hcash
  clear hr0 hc0 hx hcash ho hol hb
  go_enter Try.func76, Try.ntmps76
  go_wp2_with (first
    | (((with_reducible refine gate_dst (N := 15) rfl ?_); refine Kd.R_lit (Kd.int .i64) w.heap.size 3 (w0 := w) ?hg (N := 15) ?hd (xs := []) (inner := []) (ok := fun _ => True) (okp := fun _ => True) ?hr ?hp (fun _ hk => hk) trivial (by repeat first | (with_reducible first | exact HB.out | apply ba_ | apply bn_ | apply bd_) | exact HB.out) (below_size (by repeat first | (with_reducible first | exact HB.out | apply ba_ | apply bn_ | apply bd_) | exact HB.out)) (by simp) ?_; (case hd => rfl); (case hg => rfl); (case hr => first | (go_simp; done) | (go_simp; rfl)); (case hp => exact (Reps.none _ _)); intro v1 w1 ho hb hgr hnw); have HO6 := am_ ho; have AP1 := am_ (Ap.new HO8.out hnw); have m_ := am_ (R_same HO8.out hgr); clear HB HO8; have HO8 := m_; have HB := am_ hb; clear m_ ho hb hgr hnw)
    | (((with_reducible refine gate_dst (N := 16) rfl ?_); refine Kd.R_lit (Kd.int .i64) w.heap.size 3 (w0 := w) ?hg (N := 16) ?hd (xs := []) (inner := []) (ok := fun _ => True) (okp := fun _ => True) ?hr ?hp (fun _ hk => hk) trivial (by repeat first | (with_reducible first | exact HB.out | apply ba_ | apply bn_ | apply bd_) | exact HB.out) (below_size (by repeat first | (with_reducible first | exact HB.out | apply ba_ | apply bn_ | apply bd_) | exact HB.out)) (by simp) ?_; (case hd => rfl); (case hg => rfl); (case hr => first | (go_simp; done) | (go_simp; rfl)); (case hp => exact (Reps.none _ _)); intro v1 w1 ho hb hgr hnw); have HO7 := am_ ho; have AP2 := am_ (Ap.new HO8.out hnw); have AP3 := am_ (Ap.new HO6.out hnw); have m_ := am_ (R_same HO8.out hgr); have n_ := am_ (R_same HO6.out hgr); clear HB HO8 HO6; have HO8 := m_; have HO6 := n_; have HB := am_ hb; clear m_ n_ ho hb hgr hnw))
  go_loopw [9, 10, 11, 12] (fun v9 v10 v11 v12 wr => ∃ (pre rest : List S49) (s : Int), v12 = .int .i64 pre.length ∧ v11 = .int .i64 s ∧ Aside0 (s = sumI (dueL r pre)) ∧ Aside0 (xs = pre ++ rest) ∧ Aside0 ((Kd.int .i64).R 3 wr w.heap.size (fun _ => True) v9 ((ownL r pre 0).map (fun (n : Nat) => (n : Int)))) ∧ Aside0 ((Kd.int .i64).R 3 wr w.heap.size (fun _ => True) v10 (dueL r pre)) ∧ Aside0 ((Kd.int .i64).R 3 wr w.heap.size (fun _ => True) v8 out) ∧ Aside0 (Ap v8 v9) ∧ Aside0 (Ap v8 v10) ∧ Aside0 (Ap v9 v10) ∧ Aside0 (Below w.heap.size w wr)) (fun _ _ _ v12 _ => xs.length - (intOf v12).toNat)
  case atStart => exact ⟨[], xs, 0, rfl, rfl, ⟨rfl⟩, ⟨rfl⟩, ⟨(by (with_reducible repeat first | apply ra_ | apply rn_ | apply rd_); exact HO6.out)⟩, ⟨(by (with_reducible repeat first | apply ra_ | apply rn_ | apply rd_); exact HO7.out)⟩, ⟨(by (with_reducible repeat first | apply ra_ | apply rn_ | apply rd_); exact HO8.out)⟩, AP1, AP2, AP3, ⟨(by repeat first | (with_reducible first | exact HB.out | apply ba_ | apply bn_ | apply bd_) | exact HB.out)⟩⟩
  case round =>
    clear HO6 HO7 HO8 AP1 AP2 AP3 HB
    obtain ⟨pre, rest, s, rfl, rfl, HS, HX, HO6, HO7, HO8, AP1, AP2, AP3, HB⟩ := hrel
    cases rest with
    | nil =>
      have hl_ := len_nil HX.out
      have hx_ : xs = pre := by simpa using HX.out
      rw [← hx_] at HO6 HO7 HS
      have c2 : decide (pre.length < xs.length) = false := decide_eq_false (by omega)
      clear hx_ hl_ HX
      obtain ⟨ON, hON⟩ : ∃ O, O = ownL r xs 0 := ⟨_, rfl⟩
      obtain ⟨OW, hOW⟩ : ∃ O, O = ON.map (fun (n : Nat) => (n : Int)) := ⟨_, rfl⟩
      obtain ⟨DU, hDU⟩ : ∃ D, D = dueL r xs := ⟨_, rfl⟩
      rw [← hON, ← hOW] at HO6
      rw [← hDU] at HO7 HS
      have hol : OW.length = ON.length := by rw [hOW, List.length_map]
      have hdl : DU.length = ON.length := by rw [hDU, hON, ownL_length]
      have hdn : DU.length ≤ 20 := by have := dueL_len r xs; rw [hDU]; omega
      have hdb := dueL_bd r xs HX0.out
      rw [← hDU] at hdb
      have hpk := partsA_ok hdb HCB.out
      have hs0 : 0 ≤ s := by rw [HS.out]; exact sumI_nonneg _ (fun d q => (hdb d q).1)
      have hs1 : s ≤ 20000000000 := by rw [HS.out]; have := sumI_le DU 1000000000 (fun d q => (hdb d q).2); omega
      have hrk : rankS xs r out c = if s = 0 then (out, c) else (setAll out ON (partsA DU c), c - (if c < s then c else s)) := by unfold rankS; rw [← hON, ← hDU, ← HS.out]
      by_cases hz : s = 0
      · have HRK := am_ (show rankS xs r out c = (out, c) from by rw [hrk, if_pos hz])
        have z1 : (s == 0) = true := by simp [hz]
        have z2 : decide (s = 0) = true := decide_eq_true hz
        clear hz hrk hON hOW hDU hol hdl
        go_wp2
        go_ret
        exact ⟨by rw [HRK.out]; rfl, by rw [HRK.out]; exact (by (with_reducible repeat first | apply ra_ | apply rn_ | apply rd_); exact HO8.out), (by repeat first | (with_reducible first | exact HB.out | apply ba_ | apply bn_ | apply bd_) | exact HB.out)⟩
      · obtain ⟨PA, hPA⟩ : ∃ P, P = partsA DU c := ⟨_, rfl⟩
        have hpl := (partsA_len DU c hpk.1).trans hdl
        rw [← hPA] at hpk hpl hrk
        obtain ⟨mv, hmv⟩ : ∃ m, m = (if c < s then c else s) := ⟨_, rfl⟩
        have HRK := am_ (show rankS xs r out c = (setAll out ON PA, c - mv) from by rw [hrk, if_neg hz, hmv])
        have HLC := am_ (least_c c s mv hmv.symm)
        have z1 : (s == 0) = false := by simp [hz]
        have z2 : decide (s = 0) = false := decide_eq_false hz
        have hsp : 0 < s := by omega
        have hnz : 0 < DU.length := by
          cases hd : DU with
          | nil => have := HS.out; rw [hd] at this; simp [sumI] at this; omega
          | cons x y => simp
        have cb0 := HCB.out.1
        have cb1 := HCB.out.2
        have m0 : 0 ≤ c - mv := by rw [hmv]; split <;> omega
        have m1 : 0 ≤ mv := by rw [hmv]; split <;> omega
        obtain ⟨A6, c6, e6⟩ := Kd.R_slice HO6.out
        obtain ⟨n6, hn6⟩ : ∃ n, n = OW.length := ⟨_, rfl⟩
        rw [← hn6] at e6 hol
        subst e6
        have HN6 := am_ hn6
        have HPL := am_ hpl
        have HOL6 := am_ hol
        have HDL6 := am_ hdl
        have HDB := am_ hdb
        have HPA := am_ hPA
        have HSS := am_ (HS.out)
        have HOWN := am_ (show ∀ i ∈ ON, i < xs.length from fun i hi => by rw [hON] at hi; have := (ownL_mem r xs 0 i hi).2.1; omega)
        have HOW := am_ hOW
        obtain ⟨g7, c7, e7, hg7, _, _⟩ := Kd.R_form HO7.out hnz
        subst e7
        have HC7 := am_ (R_cap HO7.out)
        have hn6b : n6 ≤ 20 := by omega
        have hn6p : 0 < n6 := by omega
        clear hn6 hpl hol hdl hdb hpk hPA hON hOW hDU hz hrk hmv HS
        go_upto_if 55 with (fail)
        go_cut [13] (fun v15 wx => ∃ (g9 c9 : Nat), v15 = .slice (some ⟨g9, 0, none⟩) PA.length c9 ∧ Aside0 ((Kd.int .i64).R 3 wx w.heap.size (fun _ => True) v15 PA) ∧ Aside0 ((Kd.int .i64).R 3 wx w.heap.size (fun _ => True) (.slice A6 n6 c6) OW) ∧ Aside0 ((Kd.int .i64).R 3 wx w.heap.size (fun _ => True) v8 out) ∧ Aside0 (Ap v8 v15) ∧ Aside0 (Ap v8 (.slice A6 n6 c6)) ∧ Aside0 (Below w.heap.size w wx))
        case first =>
          by_cases hcs : c < s
          · have cs : decide (c < s) = true := decide_eq_true hcs
            have HPV := am_ (show PA = divideA DU c from by rw [HPA.out]; unfold partsA; rw [if_pos (by rw [← HSS.out]; exact hcs)])
            have HDV := am_ (fun W h => divide_c g7 c7 DU c W h HC7.out HDB.out HCB.out (by rw [← HSS.out]; exact hcs) hdn)
            clear hcs
            simp only [cs]
            go_wp2_with fail
            refine (HDV.out _ (by repeat first | exact (R_C HO7.out) | with_reducible refine ca_ ?_ _ | with_reducible refine cn_ ?_ _ | with_reducible refine cd_ ?_)).mono ?_
            rw [← HPV.out]
            rintro e w3 ⟨v9, rfl, ho, hb⟩
            have m9 := am_ (Kd.R_lower ho (show w.heap.size ≤ _ from below_size (by repeat first | (with_reducible first | exact HB.out | apply ba_ | apply bn_ | apply bd_) | exact HB.out)))
            have mf := am_ (Ap.fresh (by (with_reducible repeat first | apply ra_ | apply rn_ | apply rd_); exact HO8.out) ho (Nat.le_refl _))
            replace HO6 := am_ (Kd.R_below (by (with_reducible repeat first | apply ra_ | apply rn_ | apply rd_); exact HO6.out) hb); replace HO8 := am_ (Kd.R_below (by (with_reducible repeat first | apply ra_ | apply rn_ | apply rd_); exact HO8.out) hb); replace HB := am_ (below_step (by repeat first | (with_reducible first | exact HB.out | apply ba_ | apply bn_ | apply bd_) | exact HB.out) hb); clear hb
            obtain ⟨g9, c9, e9, _, _, _⟩ := Kd.R_form m9.out (by have := HPL.out; have := HOL6.out; omega)
            subst e9
            clear ho
            go_wp2_with fail
            go_meet
            exact ⟨g9, c9, rfl, ⟨(by (with_reducible repeat first | apply ra_ | apply rn_ | apply rd_); exact m9.out)⟩, ⟨(by (with_reducible repeat first | apply ra_ | apply rn_ | apply rd_); exact HO6.out)⟩, ⟨(by (with_reducible repeat first | apply ra_ | apply rn_ | apply rd_); exact HO8.out)⟩, mf, AP1, ⟨(by repeat first | (with_reducible first | exact HB.out | apply ba_ | apply bn_ | apply bd_) | exact HB.out)⟩⟩
          · have cs : decide (c < s) = false := decide_eq_false hcs
            have HPV := am_ (show PA = DU from by rw [HPA.out]; unfold partsA; rw [if_neg (by rw [← HSS.out]; exact hcs)])
            clear hcs
            simp only [cs]
            go_wp2_with fail
            go_meet
            exact ⟨g7, c7, by rw [HPV.out], ⟨by rw [HPV.out]; exact (by (with_reducible repeat first | apply ra_ | apply rn_ | apply rd_); exact HO7.out)⟩, ⟨(by (with_reducible repeat first | apply ra_ | apply rn_ | apply rd_); exact HO6.out)⟩, ⟨(by (with_reducible repeat first | apply ra_ | apply rn_ | apply rd_); exact HO8.out)⟩, AP2, AP1, ⟨(by repeat first | (with_reducible first | exact HB.out | apply ba_ | apply bn_ | apply bd_) | exact HB.out)⟩⟩
        case rest =>
          obtain ⟨g9, c9, rfl, m9, m6, m8, AP4, AP5, mb⟩ := hcut
          clear HO6 HO7 HO8 HB AP1 AP2 AP3
          have hxp : 0 < xs.length := by
            have h1 : 0 < ON.length := by have := HOL6.out; omega
            exact Nat.lt_of_le_of_lt (Nat.zero_le _) (HOWN.out _ (List.getElem_mem h1))
          obtain ⟨g8, c8, e8, hg8, _, _⟩ := Kd.R_form m8.out (by have := HOL.out; omega)
          rw [HOL.out] at e8
          subst e8
          have AP6 : Ap (.slice (some ⟨g8, 0, none⟩) xs.length c8) (.slice (some ⟨g9, 0, none⟩) PA.length c9) := AP4.out
          have n89 : g8 ≠ g9 := fun q => AP6 g8 rfl (by rw [q]; rfl)
          have N89 := am_ n89
          have AP7 := am_ (show ∀ q, (Value.slice A6 n6 c6).ownBlock = some q → q ≠ g8 from fun q hq he => AP5.out g8 rfl (by rw [← he]; exact hq))
          have hb6 : ∃ b6, A6 = some ⟨b6, 0, none⟩ := R_head m6.out (by have := HN6.out; omega)
          obtain ⟨b6, e6⟩ := hb6
          subst e6
          have HN9 := am_ (show PA.length = n6 from HPL.out.trans HOL6.out.symm)
          clear n89 AP6 AP4 AP5 hxp
          go_wp2_with fail
          go_loopw [14] (fun v14 wr => ∃ (j : Nat) (cur : List Int), v14 = .int .i64 j ∧ Aside0 (j ≤ n6) ∧ Aside0 (cur.length = xs.length) ∧ Aside0 (setAll cur (ON.drop j) (PA.drop j) = setAll out ON PA) ∧ Aside0 ((Kd.int .i64).R 3 wr w.heap.size (fun _ => True) (.slice (some ⟨g9, 0, none⟩) PA.length c9) PA) ∧ Aside0 ((Kd.int .i64).R 3 wr w.heap.size (fun _ => True) (.slice (some ⟨b6, 0, none⟩) n6 c6) OW) ∧ Aside0 ((Kd.int .i64).R 3 wr w.heap.size (fun _ => True) (.slice (some ⟨g8, 0, none⟩) xs.length c8) cur) ∧ Aside0 (Below w.heap.size w wr)) (fun v14 _ => n6 - (intOf v14).toNat)
          case atStart => exact ⟨0, out, rfl, ⟨Nat.zero_le _⟩, HOL, ⟨rfl⟩, ⟨(by (with_reducible repeat first | apply ra_ | apply rn_ | apply rd_); exact m9.out)⟩, ⟨(by (with_reducible repeat first | apply ra_ | apply rn_ | apply rd_); exact m6.out)⟩, ⟨(by (with_reducible repeat first | apply ra_ | apply rn_ | apply rd_); exact m8.out)⟩, ⟨(by repeat first | (with_reducible first | exact mb.out | apply ba_ | apply bn_ | apply bd_) | exact mb.out)⟩⟩
          case round =>
            clear m9 m6 m8 mb HOL
            obtain ⟨j, cur, rfl, HJ, HOL, HSA, m9, m6, m8, mb⟩ := hrel
            by_cases hj : j < n6
            · have cj : decide (j < n6) = true := decide_eq_true hj
              have hjo : j < ON.length := by have := HOL6.out; omega
              have hjp : j < PA.length := by have := HN9.out; omega
              obtain ⟨i, hi⟩ : ∃ i, i = ON[j] := ⟨_, rfl⟩
              have him : i < xs.length := by rw [hi]; exact HOWN.out _ (List.getElem_mem hjo)
              have hsa := setAll_step (out := cur) hjo hjp
              rw [HSA.out, ← hi] at hsa
              have y6 : wr.cell? ⟨b6, j, none⟩ = some (.int .i64 (i : Int)) := by
                have h := (Kd.R_celln 0 m6.out (j : Int) (by omega) (by omega)).1
                rw [Int.toNat_natCast] at h
                rw [h]
                exact congrArg (fun z => some (Value.int .i64 z)) ((congrArg (fun l : List Int => l.getD j 0) HOW.out).trans ((ints_at hjo).trans (by rw [hi])))
              obtain ⟨p, hp⟩ : ∃ p, p = PA.getD j 0 := ⟨_, rfl⟩
              have y9 : wr.cell? ⟨g9, j, none⟩ = some (.int .i64 p) := by
                have h := (Kd.R_celln 0 m9.out (j : Int) (by omega) (by omega)).1
                rw [Int.toNat_natCast] at h
                rw [h, hp]
                rfl
              have hy8 : ∃ u, wr.cell? ⟨g8, i, none⟩ = some u := by
                have h := (Kd.R_celln 0 m8.out (i : Int) (by omega) (by omega)).1
                rw [Int.toNat_natCast] at h
                exact ⟨_, h⟩
              obtain ⟨u8_, y8⟩ := hy8
              have f8 := (Kd.R_celln 0 m8.out (i : Int) (by omega) (by omega)).2
              rw [Int.toNat_natCast] at f8
              rw [← hp] at hsa
              have HSA2 := am_ hsa.symm
              have q0 : (0 : Int) ≤ (j : Int) := by omega
              have q1 : (j : Int) < (n6 : Int) := by omega
              have q2 : (j : Int) < (PA.length : Int) := by omega
              have q3 : (0 : Int) ≤ (i : Int) := by omega
              have q4 : (i : Int) < (xs.length : Int) := by omega
              have tj : (j : Int).toNat = j := Int.toNat_natCast j
              have ti : (i : Int).toNat = i := Int.toNat_natCast i
              clear hj hjo hjp hi hp hsa
              go_upto_region 19 with (fail)
              go_region
              go_wp2
              have hp8 := Kd.R_putn m8.out (i : Int) p
              rw [Int.toNat_natCast] at hp8
              have k8 := am_ hp8
              have k9 := am_ (R_offset m9.out (g := g8) (fun q hq he => N89.out (by injection hq with hq; exact (hq.trans he).symm)) i (.int .i64 p))
              have k6 := am_ (R_offset m6.out (g := g8) AP7.out i (.int .i64 p))
              have kb := am_ (below_set (j := i) (v := .int .i64 p) mb.out hg8)
              clear hp8
              go_roundw
              case rel => exact ⟨j + 1, cur.set i p, by go_num, ⟨by omega⟩, ⟨by rw [List.length_set]; exact HOL.out⟩, HSA2, ⟨(by (with_reducible repeat first | apply ra_ | apply rn_ | apply rd_); exact k9.out)⟩, ⟨(by (with_reducible repeat first | apply ra_ | apply rn_ | apply rd_); exact k6.out)⟩, ⟨(by (with_reducible repeat first | apply ra_ | apply rn_ | apply rd_); exact k8.out)⟩, ⟨(by repeat first | (with_reducible first | exact kb.out | apply ba_ | apply bn_ | apply bd_) | exact kb.out)⟩⟩
              case measure => simp [intOf]; omega
            · have cj : decide (j < n6) = false := decide_eq_false hj
              have hj2 : j = n6 := by have := HJ.out; omega
              have hsa := HSA.out
              rw [hj2, List.drop_eq_nil_of_le (by have := HOL6.out; omega)] at hsa
              have HCU := am_ (show cur = setAll out ON PA from by rw [← hsa]; simp [setAll])
              clear hj hj2 hsa
              go_wp2_with (go_at_call 94; refine (HLC.out _).mono ?_; rintro e w2_ ⟨rfl, ⟨m_, rfl⟩⟩)
              go_ret
              exact ⟨by rw [HRK.out]; rfl, by rw [HRK.out, ← HCU.out]; exact (by (with_reducible repeat first | apply ra_ | apply rn_ | apply rd_); exact m8.out), (by repeat first | (with_reducible first | exact mb.out | apply ba_ | apply bn_ | apply bd_) | exact mb.out)⟩
    | cons a t =>
      have hlt := len_cons HX.out
      have hpl : (pre.length : Int) < xs.length := by omega
      obtain ⟨ad, e0, hx0, hx1⟩ := at_T49 HR0.out (pre.length : Int) (by omega) hpl
      rw [rd_T49_at HX.out rfl] at hx0 hx1
      simp only [Int.toNat_natCast] at hx0 hx1
      cases e0
      have X1 := am_ hx1
      replace hx0 := (HB.out.cell (World.block_lt_of_cell? w _ hx0)).trans hx0
      replace hx1 := (HB.out.cell (World.block_lt_of_cell? w _ hx1)).trans hx1
      have c2 : decide (pre.length < xs.length) = true := decide_eq_true (by omega)
      have c2' : pre.length < xs.length := by omega
      have HOS := am_ (ownL_snoc r pre a 0)
      have HDS := am_ (dueL_snoc r pre a)
      have HSX := am_ (snoc HX.out)
      have hl6 : (ownL r pre 0).length ≤ 20 := by rw [ownL_length]; have := dueL_len r pre; omega
      have hl7 : (dueL r pre).length ≤ 20 := by have := dueL_len r pre; omega
      have hdb := dueL_bd r pre (fun b hb => HX0.out b (by rw [HX.out]; simp [hb]))
      have hs0 : 0 ≤ s := by rw [HS.out]; exact sumI_nonneg _ (fun d q => (hdb d q).1)
      have hs1 : s ≤ 20000000000 := by rw [HS.out]; have := sumI_le (dueL r pre) 1000000000 (fun d q => (hdb d q).2); omega
      have ha := (HX0.out a (by rw [HX.out]; simp)).2
      have a0 := ha.1
      have a1 := ha.2
      have hml : ((ownL r pre 0).map (fun (n : Nat) => (n : Int))).length = (ownL r pre 0).length := List.length_map _
      obtain ⟨OW, hOW⟩ : ∃ O, O = (ownL r pre 0).map (fun (n : Nat) => (n : Int)) := ⟨_, rfl⟩
      obtain ⟨DU, hDU⟩ : ∃ D, D = dueL r pre := ⟨_, rfl⟩
      rw [← hOW] at HO6 hml
      rw [← hDU] at HO7 hl7 HS
      have HOW := am_ hOW
      have HDU := am_ hDU
      have hl6' : OW.length ≤ 20 := by omega
      clear hOW hDU hml hl6 hdb ha hlt
      by_cases hm : a.f0 = r
      · have HON := am_ (show (ownL r (pre ++ [a]) 0).map (fun (n : Nat) => (n : Int)) = OW ++ [(pre.length : Int)] from by rw [HOS.out, if_pos hm, List.map_append, HOW.out]; simp)
        have HDN := am_ (show dueL r (pre ++ [a]) = DU ++ [a.f1] from by rw [HDS.out, if_pos hm, HDU.out])
        have HSN := am_ (show s + a.f1 = sumI (dueL r (pre ++ [a])) from by rw [HDN.out, sumI_snoc, HS.out])
        have cm : (a.f0 == r) = true := by simp [hm]
        have cm2 : decide (a.f0 = r) = true := decide_eq_true hm
        clear hm
        go_wp2_with (first
          | (((with_reducible refine gate_builtin (b := .append) (xs := #[.tmp 30, .tmp 32]) rfl ?_); at_builtin; refine Kd.R_append (Kd.int .i64) (w0 := w) w.heap.size rfl (.tmp 30) (.tmp 32) 51 3 (.int .i64 0) 8 rfl Try.underlying51 infoI rfl (by decide) (by omega) u9 OW (pre.length : Int) [.int .i64 (pre.length : Int)] (fun _ => True) (fun _ => False) rfl rfl ?aP (fun _ hk => hk.elim) ?aF ?aO ?aB ?aS ?aL ?_; (case aP => exact rfl); (case aB => exact (by repeat first | (with_reducible first | exact HB.out | apply ba_ | apply bn_ | apply bd_) | exact HB.out)); (case aF => exact (fun _ _ => trivial)); (case aO => exact (by (with_reducible repeat first | apply ra_ | apply rn_ | apply rd_); exact HO6.out)); (case aS => exact (below_size (by repeat first | (with_reducible first | exact HB.out | apply ba_ | apply bn_ | apply bd_) | exact HB.out))); (case aL => omega); intro v1 w1 ho hb hg hat); have m6 := am_ ho; have m7 := am_ (R_offrow (by (with_reducible repeat first | apply ra_ | apply rn_ | apply rd_); exact HO7.out) hg AP3.out.symm); have m8 := am_ (R_offrow (by (with_reducible repeat first | apply ra_ | apply rn_ | apply rd_); exact HO8.out) hg AP1.out); have ma := am_ (Ap.app AP1.out (by (with_reducible repeat first | apply ra_ | apply rn_ | apply rd_); exact HO8.out) hat); have mc := am_ ((Ap.app AP3.out.symm (by (with_reducible repeat first | apply ra_ | apply rn_ | apply rd_); exact HO7.out) hat).symm); clear HO6 HO7 HO8 HB AP1 AP3; have HO6 := m6; have HO7 := m7; have HO8 := m8; have AP1 := ma; have AP3 := mc; have HB := am_ hb; clear m6 m7 m8 ma mc ho hb hg hat; have hx2 := (HB.out.cell (World.block_lt_of_cell? w _ X1.out)).trans X1.out)
          | (((with_reducible refine gate_builtin (b := .append) (xs := #[.tmp 34, .tmp 40]) rfl ?_); at_builtin; refine Kd.R_append (Kd.int .i64) (w0 := w) w.heap.size rfl (.tmp 34) (.tmp 40) 51 3 (.int .i64 0) 8 rfl Try.underlying51 infoI rfl (by decide) (by omega) u10 DU a.f1 [.int .i64 a.f1] (fun _ => True) (fun _ => False) rfl rfl ?aP (fun _ hk => hk.elim) ?aF ?aO ?aB ?aS ?aL ?_; (case aP => exact rfl); (case aB => exact (by repeat first | (with_reducible first | exact HB.out | apply ba_ | apply bn_ | apply bd_) | exact HB.out)); (case aF => exact (fun _ _ => trivial)); (case aO => exact (by (with_reducible repeat first | apply ra_ | apply rn_ | apply rd_); exact HO7.out)); (case aS => exact (below_size (by repeat first | (with_reducible first | exact HB.out | apply ba_ | apply bn_ | apply bd_) | exact HB.out))); (case aL => omega); intro v1 w1 ho hb hg hat); have m7 := am_ ho; have m6 := am_ (R_offrow (by (with_reducible repeat first | apply ra_ | apply rn_ | apply rd_); exact HO6.out) hg AP3.out); have m8 := am_ (R_offrow (by (with_reducible repeat first | apply ra_ | apply rn_ | apply rd_); exact HO8.out) hg AP2.out); have ma := am_ (Ap.app AP2.out (by (with_reducible repeat first | apply ra_ | apply rn_ | apply rd_); exact HO8.out) hat); have mc := am_ (Ap.app AP3.out (by (with_reducible repeat first | apply ra_ | apply rn_ | apply rd_); exact HO6.out) hat); clear HO6 HO7 HO8 HB AP2 AP3; have HO6 := m6; have HO7 := m7; have HO8 := m8; have AP2 := ma; have AP3 := mc; have HB := am_ hb; clear m6 m7 m8 ma mc ho hb hg hat; have hx3 := (HB.out.cell (World.block_lt_of_cell? w _ X1.out)).trans X1.out))
        go_roundw
        case rel => exact ⟨pre ++ [a], t, s + a.f1, by rw [len_snoc], by go_num, HSN, HSX, ⟨by rw [HON.out]; exact (by (with_reducible repeat first | apply ra_ | apply rn_ | apply rd_); exact HO6.out)⟩, ⟨by rw [HDN.out]; exact (by (with_reducible repeat first | apply ra_ | apply rn_ | apply rd_); exact HO7.out)⟩, ⟨(by (with_reducible repeat first | apply ra_ | apply rn_ | apply rd_); exact HO8.out)⟩, AP1, AP2, AP3, ⟨(by repeat first | (with_reducible first | exact HB.out | apply ba_ | apply bn_ | apply bd_) | exact HB.out)⟩⟩
        case measure => simp [intOf]; omega
      · have HON := am_ (show (ownL r (pre ++ [a]) 0).map (fun (n : Nat) => (n : Int)) = OW from by rw [HOS.out, if_neg hm, List.append_nil, HOW.out])
        have HDN := am_ (show dueL r (pre ++ [a]) = DU from by rw [HDS.out, if_neg hm, List.append_nil, HDU.out])
        have HSN := am_ (show s = sumI (dueL r (pre ++ [a])) from by rw [HDN.out, HS.out])
        have cm : (a.f0 == r) = false := by simp [hm]
        have cm2 : decide (a.f0 = r) = false := decide_eq_false hm
        clear hm
        go_wp2
        go_roundw
        case rel => exact ⟨pre ++ [a], t, s, by rw [len_snoc], rfl, HSN, HSX, ⟨by rw [HON.out]; exact (by (with_reducible repeat first | apply ra_ | apply rn_ | apply rd_); exact HO6.out)⟩, ⟨by rw [HDN.out]; exact (by (with_reducible repeat first | apply ra_ | apply rn_ | apply rd_); exact HO7.out)⟩, ⟨(by (with_reducible repeat first | apply ra_ | apply rn_ | apply rd_); exact HO8.out)⟩, AP1, AP2, AP3, ⟨(by repeat first | (with_reducible first | exact HB.out | apply ba_ | apply bn_ | apply bd_) | exact HB.out)⟩⟩
        case measure => simp [intOf]; omega
end Go.Proofs.Ytbnhpkkkijjkkaa.O
