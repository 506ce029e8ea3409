/- Walks of our own, a part of those for the law FnExactRunWaterfall: each function's contract in plain Lean. No condition beyond the bounds that each contract names. -/
import Derived.Test.YtbnhpkkkijjkkaaPureFnExactRunWaterfall
import Derived.Shelf.SlicesE.IndexFunc
import Derived.Shelf.Slices.Clone
import Derived.Shelf.Slices.Turned
import Derived.Sort.LotA
import Derived.Shelf.SlSortCmp.Insertion1
import Derived.Shelf.SlLaysH
import Derived.Shelf.Lays2
import Derived.Shelf.Lays
import Derived.Shelf.SlLaysF
import Derived.Test.YtbnhpkkkijjkkaaOFnExactRunWaterfalla
namespace Go.Proofs.Ytbnhpkkkijjkkaa.O
open Go.RowKit Go.Proofs.YtbnhpkkkijjkkaaW.PrintWords Go.Proofs.YtbnhpkkkijjkkaaW.PrintLast Go.Proofs.YtbnhpkkkijjkkaaW.PrintMore Go.Proofs.Ytbnhpkkkijjkkaa.PL18D Go.Proofs.Ytbnhpkkkijjkkaa.EvKit Go.Proofs.Ytbnhpkkkijjkkaa.Pure
set_option linter.unusedVariables false
set_option linter.unusedSimpArgs false
attribute [local go_sem] max2_int min2_int max_two min_two max_three min_three max_four min_four
theorem sumOf_c (A : Option Addr) (n c : Nat) (xs : List Int) (w : World) (hn : n = xs.length) (hr : (Kd.int .i64).C w A xs.length xs) (hc : xs.length ≤ c) (h0 : ∀ x ∈ xs, 0 ≤ x ∧ x ≤ 1000000000) (hl : xs.length ≤ 1048576) :
    Calls Try.prog 83 #[.slice A n c] w fun e w' => e = .returned (.int .i64 (sumI xs)) ∧ ∃ m, w' = w.drewN m := by
  subst hn
  obtain ⟨k, hk⟩ := roundsOf (implSumOf_ev xs (by omega))
  have hle := sumI_le xs 1000000000 (fun x q => (h0 x q).2)
  rw [sumWI_eq xs 0 (fun x q => (h0 x q).1) (by omega) (by omega), Int.zero_add] at hk
  exact (impl_sumOf.calls k A c xs _ w hr hc hk).mono fun e w' ⟨he, ⟨m, hw⟩⟩ => ⟨he, m, hw⟩
theorem ints_at {l : List Nat} {k : Nat} (h : k < l.length) : (l.map (fun (n : Nat) => (n : Int))).getD k 0 = (l[k] : Int) := by
  rw [List.getD_eq_getElem?_getD, List.getElem?_map, List.getElem?_eq_getElem h]; rfl
theorem partsA_len (ds : List Int) (c : Int) (h : Fits (partsA ds c) ds) : (partsA ds c).length = ds.length := (fits_sum _ _ h).2.2
theorem Ap.fresh {base b1 : Nat} {w w1 : World} {u v : Value} {xs ys : List Int} (h : (Kd.int .i64).R 3 w base (fun _ => True) u xs) (h1 : (Kd.int .i64).R 3 w1 b1 (fun _ => True) v ys) (hb : w.heap.size ≤ b1) : Ap u v := by
  intro k hk he
  have h2 := (R_ownlt h hk).2
  have h3 := (R_ownlt h1 he).1
  omega
theorem setAll_step {out : List Int} {is : List Nat} {ps : List Int} {j : Nat} (hi : j < is.length) (hp : j < ps.length) : setAll out (is.drop j) (ps.drop j) = setAll (out.set is[j] (ps.getD j 0)) (is.drop (j + 1)) (ps.drop (j + 1)) := by
  rw [List.drop_eq_getElem_cons hi, List.drop_eq_getElem_cons hp, setAll, List.getD_eq_getElem?_getD, List.getElem?_eq_getElem hp]
  rfl
set_option maxHeartbeats 16000000 in
set_option maxRecDepth 100000 in
theorem served_c (A0 : Option Addr) (c0 b2 c2 : Nat) (xs : List S49) (rs : List Int) (cash : Int) (w : World) (hr0 : Kd.C k49 w A0 xs.length xs) (hc0 : xs.length ≤ c0) (hx : ∀ a ∈ xs, okTr a) (hn : xs.length ≤ 20) (hcash : 0 ≤ cash ∧ cash ≤ 1000000000)
    (hr2 : (Kd.int .i64).C w (some ⟨b2, 0, none⟩) rs.length rs) (hc2 : rs.length ≤ c2) (hn2 : rs.length ≤ 1000) :
    Calls Try.prog 77 #[.slice A0 xs.length c0, .int .i64 cash, .slice (some ⟨b2, 0, none⟩) rs.length c2] w fun e w' => ∃ v, e = .returned (.tuple #[v, .int .i64 (serveI xs rs (zerosN xs.length) cash).2]) ∧ (Kd.int .i64).R 3 w' w.heap.size (fun _ => True) v (serveI xs rs (zerosN xs.length) cash).1 ∧ Below w.heap.size w w' := by
  have HR0 := am_ hr0
  have HC0 := am_ hc0
  have HX0 := am_ hx
  have HCL := am_ (cellsOfD hr2)
  have HCB := am_ hcash
  obtain ⟨FIN, hFIN⟩ : ∃ F, F = serveI xs rs (zerosN xs.length) cash := ⟨_, rfl⟩
  rw [← hFIN]
  have HFIN := am_ hFIN.symm
  clear hr0 hc0 hx hr2 hc2 hcash hFIN
  go_enter Try.func77, Try.ntmps77
  go_wp2_with (((with_reducible refine gate_dst (N := 20) rfl ?_); refine Kd.R_make (Kd.int .i64) w.heap.size 3 rfl (N := 20) rfl 51 _ _ rfl (xs.length : Int) rfl rfl Try.underlying51 (.int .i64 0) 8 infoI rfl (by decide) (by omega) 0 (ok := fun _ => True) (okp := fun _ => True) rfl (fun _ hk => hk) trivial (by omega) (by omega) (by repeat first | (with_reducible first | exact (Below.refl w.heap.size w) | apply ba_ | apply bn_ | apply bd_) | exact (Below.refl w.heap.size w)) (below_size (by repeat first | (with_reducible first | exact (Below.refl w.heap.size w) | apply ba_ | apply bn_ | apply bd_) | exact (Below.refl w.heap.size w))) ?_; intro v1 w1 ho hb _ _); rw [Int.toNat_natCast] at ho; have HO8 := am_ ho; have HB := am_ hb; clear ho hb)
  obtain ⟨v8, hv8⟩ : ∃ v, v = v1 := ⟨_, rfl⟩
  rw [← hv8] at HO8 ⊢
  clear hv8
  go_loopw [1, 23] (fun v1 v23 wr => ∃ (k : Nat) (c : Int) (out : List Int), v23 = .int .i64 k ∧ v1 = .int .i64 c ∧ Aside0 (k ≤ rs.length) ∧ Aside0 (0 ≤ c ∧ c ≤ 1000000000) ∧ Aside0 (out.length = xs.length) ∧ Aside0 (serveI xs (rs.drop k) out c = FIN) ∧ Aside0 ((Kd.int .i64).R 3 wr w.heap.size (fun _ => True) v8 out) ∧ Aside0 (Below w.heap.size w wr)) (fun _ v23 _ => rs.length - (intOf v23).toNat)
  case atStart => exact ⟨0, cash, zerosN xs.length, rfl, rfl, ⟨Nat.zero_le _⟩, HCB, ⟨by simp [zerosN]⟩, ⟨by rw [List.drop_zero]; exact HFIN.out⟩, ⟨(by (with_reducible repeat first | apply ra_ | apply rn_ | apply rd_); exact HO8.out)⟩, ⟨(by repeat first | (with_reducible first | exact HB.out | apply ba_ | apply bn_ | apply bd_) | exact HB.out)⟩⟩
  case round =>
    clear HO8 HB HFIN HCB
    obtain ⟨k, c, out, rfl, rfl, HK, HCB, HOL, HF, HO8, HB⟩ := hrel
    by_cases hk : k < rs.length
    · obtain ⟨r, rt, hd1, hd2, hrd⟩ := split_at hk
      have hcx := HCL.out k hk
      rw [hrd, Nat.zero_add] at hcx
      replace hcx := (HB.out.cell (World.block_lt_of_cell? w _ hcx)).trans hcx
      have hf := HF.out
      rw [hd1, serveI] at hf
      rw [← hd2] at hf
      have HF2 := am_ hf
      have hkz : (k : Int) < rs.length := by omega
      have c1 : decide (k < rs.length) = true := decide_eq_true hk
      have p0 : (0 : Int) ≤ (k : Int) := by omega
      have tn : (k : Int).toNat = k := Int.toNat_natCast _
      clear hk hd1 hd2 hrd hf HF HK
      go_wp2_with (first
        | (((with_reducible refine gate_dst (N := 27) rfl ?_); refine Kd.R_lit (Kd.int .i64) w.heap.size 3 (w0 := w) ?hg (N := 27) ?hd (xs := []) (inner := []) (ok := fun _ => True) (okp := fun _ => True) ?hr ?hp (fun _ hk => hk) trivial (by repeat first | (with_reducible first | exact HB.out | apply ba_ | apply bn_ | apply bd_) | exact HB.out) (below_size (by repeat first | (with_reducible first | exact HB.out | apply ba_ | apply bn_ | apply bd_) | exact HB.out)) (by simp) ?_; (case hd => rfl); (case hg => rfl); (case hr => first | (go_simp; done) | (go_simp; rfl)); (case hp => exact (Reps.none _ _)); intro v1 w1 ho hb hgr hnw); have HO6 := am_ ho; have AP1 := am_ (Ap.new HO8.out hnw); have m_ := am_ (R_same HO8.out hgr); clear HB HO8; have HO8 := m_; have HB := am_ hb; clear m_ ho hb hgr hnw)
        | (((with_reducible refine gate_dst (N := 28) rfl ?_); refine Kd.R_lit (Kd.int .i64) w.heap.size 3 (w0 := w) ?hg (N := 28) ?hd (xs := []) (inner := []) (ok := fun _ => True) (okp := fun _ => True) ?hr ?hp (fun _ hk => hk) trivial (by repeat first | (with_reducible first | exact HB.out | apply ba_ | apply bn_ | apply bd_) | exact HB.out) (below_size (by repeat first | (with_reducible first | exact HB.out | apply ba_ | apply bn_ | apply bd_) | exact HB.out)) (by simp) ?_; (case hd => rfl); (case hg => rfl); (case hr => first | (go_simp; done) | (go_simp; rfl)); (case hp => exact (Reps.none _ _)); intro v1 w1 ho hb hgr hnw); have HO7 := am_ ho; have AP2 := am_ (Ap.new HO8.out hnw); have AP3 := am_ (Ap.new HO6.out hnw); have m_ := am_ (R_same HO8.out hgr); have n_ := am_ (R_same HO6.out hgr); clear HB HO8 HO6; have HO8 := m_; have HO6 := n_; have HB := am_ hb; clear m_ n_ ho hb hgr hnw))
      go_loopw [11, 12, 31] (fun v11 v12 v31 wr => ∃ (pre rest : List S49), v31 = .int .i64 pre.length ∧ Aside0 (xs = pre ++ rest) ∧ Aside0 ((Kd.int .i64).R 3 wr w.heap.size (fun _ => True) v11 ((ownL r pre 0).map (fun (n : Nat) => (n : Int)))) ∧ Aside0 ((Kd.int .i64).R 3 wr w.heap.size (fun _ => True) v12 (dueL r pre)) ∧ Aside0 ((Kd.int .i64).R 3 wr w.heap.size (fun _ => True) v8 out) ∧ Aside0 (Ap v8 v11) ∧ Aside0 (Ap v8 v12) ∧ Aside0 (Ap v11 v12) ∧ Aside0 (Below w.heap.size w wr)) (fun _ _ v31 _ => xs.length - (intOf v31).toNat)
      case atStart => exact ⟨[], xs, rfl, ⟨rfl⟩, ⟨(by (with_reducible repeat first | apply ra_ | apply rn_ | apply rd_); exact HO6.out)⟩, ⟨(by (with_reducible repeat first | apply ra_ | apply rn_ | apply rd_); exact HO7.out)⟩, ⟨(by (with_reducible repeat first | apply ra_ | apply rn_ | apply rd_); exact HO8.out)⟩, AP1, AP2, AP3, ⟨(by repeat first | (with_reducible first | exact HB.out | apply ba_ | apply bn_ | apply bd_) | exact HB.out)⟩⟩
      case round =>
        clear HO6 HO7 HO8 AP1 AP2 AP3 HB hcx
        obtain ⟨pre, rest, rfl, HX, HO6, HO7, HO8, AP1, AP2, AP3, HB⟩ := hrel
        cases rest with
        | nil =>
          have hl_ := len_nil HX.out
          have hx_ : xs = pre := by simpa using HX.out
          rw [← hx_] at HO6 HO7
          have c2 : decide (pre.length < xs.length) = false := decide_eq_false (by omega)
          clear hx_ hl_ HX
          obtain ⟨ON, hON⟩ : ∃ O, O = ownL r xs 0 := ⟨_, rfl⟩
          obtain ⟨OW, hOW⟩ : ∃ O, O = ON.map (fun (n : Nat) => (n : Int)) := ⟨_, rfl⟩
          obtain ⟨DU, hDU⟩ : ∃ D, D = dueL r xs := ⟨_, rfl⟩
          rw [← hON, ← hOW] at HO6
          rw [← hDU] at HO7
          have hol : OW.length = ON.length := by rw [hOW, List.length_map]
          have hdl : DU.length = ON.length := by rw [hDU, hON, ownL_length]
          have hdn : DU.length ≤ 20 := by have := dueL_len r xs; rw [hDU]; omega
          obtain ⟨A6, c6, e6⟩ := Kd.R_slice HO6.out
          obtain ⟨n6, hn6⟩ : ∃ n, n = OW.length := ⟨_, rfl⟩
          rw [← hn6] at e6 hol
          subst e6
          have HN6 := am_ hn6
          clear hn6
          by_cases hz : ON.length = 0
          · obtain rfl : n6 = 0 := hol.trans hz
            clear hol hdl
            have HFS := am_ (show serveI xs (rs.drop (k + 1)) out c = FIN from by have h := HF2.out; unfold rankI at h; rw [if_pos (by rw [← hON]; first | exact Or.inl hz | exact Or.inr hz)] at h; exact h)
            clear hz hOW hON hDU
            go_wp2
            go_roundw
            case rel => exact ⟨k + 1, c, out, by go_num, rfl, ⟨by omega⟩, HCB, HOL, HFS, ⟨(by (with_reducible repeat first | apply ra_ | apply rn_ | apply rd_); exact HO8.out)⟩, ⟨(by repeat first | (with_reducible first | exact HB.out | apply ba_ | apply bn_ | apply bd_) | exact HB.out)⟩⟩
            case measure => simp [intOf]; omega
          · have z2 : ¬ n6 = 0 := by rw [hol]; exact hz
            have z4 : 0 < n6 := by omega
            have z1 : ((n6 : Int) == 0) = false := by simp [z2]
            have zA : decide (n6 = 0) = false := decide_eq_false z2
            have zB : (n6 == 0) = false := by simpa using z2
            have zC : decide ((n6 : Int) = 0) = false := decide_eq_false (by omega)
            have HOL6 := am_ hol
            have HDL6 := am_ hdl
            clear hol hdl
            have hnz := hz
            clear hz
            by_cases hz : c = 0
            · have z3 : (c == 0) = true := by simp [hz]
              have zD : decide (c = 0) = true := decide_eq_true hz
              have HFS := am_ (show serveI xs (rs.drop (k + 1)) out c = FIN from by have h := HF2.out; unfold rankI at h; rw [if_pos (by rw [← hON]; first | exact Or.inl hz | exact Or.inr hz)] at h; exact h)
              clear hz hOW hON hDU
              go_wp2
              go_roundw
              case rel => exact ⟨k + 1, c, out, by go_num, rfl, ⟨by omega⟩, HCB, HOL, HFS, ⟨(by (with_reducible repeat first | apply ra_ | apply rn_ | apply rd_); exact HO8.out)⟩, ⟨(by repeat first | (with_reducible first | exact HB.out | apply ba_ | apply bn_ | apply bd_) | exact HB.out)⟩⟩
              case measure => simp [intOf]; omega
            · have z3 : (c == 0) = false := by simp [hz]
              have zD : decide (c = 0) = false := decide_eq_false hz
              have hdb := dueL_bd r xs HX0.out
              rw [← hDU] at hdb
              have HDB := am_ hdb
              have hpk := partsA_ok hdb HCB.out
              obtain ⟨PA, hPA⟩ : ∃ P, P = partsA DU c := ⟨_, rfl⟩
              have hpl := (partsA_len DU c hpk.1).trans HDL6.out
              rw [← hPA] at hpk hpl
              have HPK := am_ hpk
              have HPL := am_ hpl
              clear hpl
              have hf := HF2.out
              unfold rankI at hf
              rw [← hON, ← hDU, ← hPA, if_neg (fun q => by rcases q with q | q; exact hnz q; exact hz q)] at hf
              have HF3 := am_ hf
              have HPA := am_ hPA
              have HOWN := am_ (show ∀ i ∈ ON, i < xs.length from fun i hi => by rw [hON] at hi; have := (ownL_mem r xs 0 i hi).2.1; omega)
              have HOW := am_ hOW
              obtain ⟨g7, c7, e7, hg7, _, _⟩ := Kd.R_form HO7.out (by have := HDL6.out; omega)
              subst e7
              have HC7 := am_ (R_cap HO7.out)
              have cb0 := HCB.out.1
              have cb1 := HCB.out.2
              clear hON hOW hDU hdb hpk hPA hf HF2 hz
              go_upto_if 61 with (go_at_call 83; refine (sumOf_c (some ⟨g7, 0, none⟩) DU.length c7 DU _ rfl (by repeat first | exact (R_C HO7.out) | with_reducible refine ca_ ?_ _ | with_reducible refine cn_ ?_ _ | with_reducible refine cd_ ?_) HC7.out HDB.out (by omega)).mono ?_; rintro e w2_ ⟨rfl, ⟨m_, rfl⟩⟩)
              go_cut [15] (fun v15 wx => ∃ (g9 c9 : Nat), v15 = .slice (some ⟨g9, 0, none⟩) PA.length c9 ∧ Aside0 ((Kd.int .i64).R 3 wx w.heap.size (fun _ => True) v15 PA) ∧ Aside0 ((Kd.int .i64).R 3 wx w.heap.size (fun _ => True) (.slice A6 n6 c6) OW) ∧ Aside0 ((Kd.int .i64).R 3 wx w.heap.size (fun _ => True) v8 out) ∧ Aside0 (Ap v8 v15) ∧ Aside0 (Ap v8 (.slice A6 n6 c6)) ∧ Aside0 (Below w.heap.size w wx))
              case first =>
                by_cases hcs : c < sumI DU
                · have cs : decide (c < sumI DU) = true := decide_eq_true hcs
                  have HPV := am_ (show PA = divideA DU c from by rw [HPA.out]; unfold partsA; rw [if_pos hcs])
                  have HDV := am_ (fun W h => divided_c g7 c7 DU c W h HC7.out HDB.out HCB.out hcs hdn)
                  clear hcs
                  simp only [cs]
                  go_wp2_with fail
                  refine (HDV.out _ (by repeat first | exact (R_C HO7.out) | with_reducible refine ca_ ?_ _ | with_reducible refine cn_ ?_ _ | with_reducible refine cd_ ?_)).mono ?_
                  rw [← HPV.out]
                  rintro e w3 ⟨v9, rfl, ho, hb⟩
                  have m9 := am_ (Kd.R_lower ho (show w.heap.size ≤ _ from below_size (by repeat first | (with_reducible first | exact HB.out | apply ba_ | apply bn_ | apply bd_) | exact HB.out)))
                  have mf := am_ (Ap.fresh (by (with_reducible repeat first | apply ra_ | apply rn_ | apply rd_); exact HO8.out) ho (Nat.le_refl _))
                  replace HO6 := am_ (Kd.R_below (by (with_reducible repeat first | apply ra_ | apply rn_ | apply rd_); exact HO6.out) hb); replace HO8 := am_ (Kd.R_below (by (with_reducible repeat first | apply ra_ | apply rn_ | apply rd_); exact HO8.out) hb); replace HB := am_ (below_step (by repeat first | (with_reducible first | exact HB.out | apply ba_ | apply bn_ | apply bd_) | exact HB.out) hb); clear hb
                  obtain ⟨g9, c9, e9, _, _, _⟩ := Kd.R_form m9.out (by have := HPL.out; omega)
                  subst e9
                  clear ho
                  go_wp2_with fail
                  go_meet
                  exact ⟨g9, c9, rfl, ⟨(by (with_reducible repeat first | apply ra_ | apply rn_ | apply rd_); exact m9.out)⟩, ⟨(by (with_reducible repeat first | apply ra_ | apply rn_ | apply rd_); exact HO6.out)⟩, ⟨(by (with_reducible repeat first | apply ra_ | apply rn_ | apply rd_); exact HO8.out)⟩, mf, AP1, ⟨(by repeat first | (with_reducible first | exact HB.out | apply ba_ | apply bn_ | apply bd_) | exact HB.out)⟩⟩
                · have cs : decide (c < sumI DU) = false := decide_eq_false hcs
                  have HPV := am_ (show PA = DU from by rw [HPA.out]; unfold partsA; rw [if_neg hcs])
                  clear hcs
                  simp only [cs]
                  go_wp2_with fail
                  go_meet
                  exact ⟨g7, c7, by rw [HPV.out], ⟨by rw [HPV.out]; exact (by (with_reducible repeat first | apply ra_ | apply rn_ | apply rd_); exact HO7.out)⟩, ⟨(by (with_reducible repeat first | apply ra_ | apply rn_ | apply rd_); exact HO6.out)⟩, ⟨(by (with_reducible repeat first | apply ra_ | apply rn_ | apply rd_); exact HO8.out)⟩, AP2, AP1, ⟨(by repeat first | (with_reducible first | exact HB.out | apply ba_ | apply bn_ | apply bd_) | exact HB.out)⟩⟩
              case rest =>
                obtain ⟨g9, c9, rfl, m9, m6, m8, AP4, AP5, mb⟩ := hcut
                clear HO6 HO7 HO8 HB AP1 AP2 AP3
                have hxp : 0 < xs.length := by
                  have h1 : 0 < ON.length := by omega
                  exact Nat.lt_of_le_of_lt (Nat.zero_le _) (HOWN.out _ (List.getElem_mem h1))
                obtain ⟨g8, c8, e8, hg8, _, _⟩ := Kd.R_form m8.out (by have := HOL.out; omega)
                rw [HOL.out] at e8
                subst e8
                have AP6 : Ap (.slice (some ⟨g8, 0, none⟩) xs.length c8) (.slice (some ⟨g9, 0, none⟩) PA.length c9) := AP4.out
                have n89 : g8 ≠ g9 := fun q => AP6 g8 rfl (by rw [q]; rfl)
                have N89 := am_ n89
                have AP7 := am_ (show ∀ q, (Value.slice A6 n6 c6).ownBlock = some q → q ≠ g8 from fun q hq he => AP5.out g8 rfl (by rw [← he]; exact hq))
                have hb6 : ∃ b6, A6 = some ⟨b6, 0, none⟩ := R_head m6.out (by have := HN6.out; omega)
                obtain ⟨b6, e6⟩ := hb6
                subst e6
                have HN9 := am_ (show PA.length = n6 from HPL.out.trans HOL6.out.symm)
                have hn6b : n6 ≤ 20 := by have := HOL6.out; have := HDL6.out; omega
                clear n89 AP6 AP4 AP5 hxp
                go_wp2_with fail
                go_loopw [67] (fun v67 wr => ∃ (j : Nat) (cur : List Int), v67 = .int .i64 j ∧ Aside0 (j ≤ n6) ∧ Aside0 (cur.length = xs.length) ∧ Aside0 (setAll cur (ON.drop j) (PA.drop j) = setAll out ON PA) ∧ Aside0 ((Kd.int .i64).R 3 wr w.heap.size (fun _ => True) (.slice (some ⟨g9, 0, none⟩) PA.length c9) PA) ∧ Aside0 ((Kd.int .i64).R 3 wr w.heap.size (fun _ => True) (.slice (some ⟨b6, 0, none⟩) n6 c6) OW) ∧ Aside0 ((Kd.int .i64).R 3 wr w.heap.size (fun _ => True) (.slice (some ⟨g8, 0, none⟩) xs.length c8) cur) ∧ Aside0 (Below w.heap.size w wr)) (fun v67 _ => n6 - (intOf v67).toNat)
                case atStart => exact ⟨0, out, rfl, ⟨Nat.zero_le _⟩, HOL, ⟨rfl⟩, ⟨(by (with_reducible repeat first | apply ra_ | apply rn_ | apply rd_); exact m9.out)⟩, ⟨(by (with_reducible repeat first | apply ra_ | apply rn_ | apply rd_); exact m6.out)⟩, ⟨(by (with_reducible repeat first | apply ra_ | apply rn_ | apply rd_); exact m8.out)⟩, ⟨(by repeat first | (with_reducible first | exact mb.out | apply ba_ | apply bn_ | apply bd_) | exact mb.out)⟩⟩
                case round =>
                  clear m9 m6 m8 mb HOL
                  obtain ⟨j, cur, rfl, HJ, HOL, HSA, m9, m6, m8, mb⟩ := hrel
                  by_cases hj : j < n6
                  · have cj : decide (j < n6) = true := decide_eq_true hj
                    have hjo : j < ON.length := by have := HOL6.out; omega
                    have hjp : j < PA.length := by have := HN9.out; omega
                    obtain ⟨i, hi⟩ : ∃ i, i = ON[j] := ⟨_, rfl⟩
                    have him : i < xs.length := by rw [hi]; exact HOWN.out _ (List.getElem_mem hjo)
                    have hsa := setAll_step (out := cur) hjo hjp
                    rw [HSA.out, ← hi] at hsa
                    have y6 : wr.cell? ⟨b6, j, none⟩ = some (.int .i64 (i : Int)) := by
                      have h := (Kd.R_celln 0 m6.out (j : Int) (by omega) (by omega)).1
                      rw [Int.toNat_natCast] at h
                      rw [h]
                      exact congrArg (fun z => some (Value.int .i64 z)) ((congrArg (fun l : List Int => l.getD j 0) HOW.out).trans ((ints_at hjo).trans (by rw [hi])))
                    obtain ⟨p, hp⟩ : ∃ p, p = PA.getD j 0 := ⟨_, rfl⟩
                    have y9 : wr.cell? ⟨g9, j, none⟩ = some (.int .i64 p) := by
                      have h := (Kd.R_celln 0 m9.out (j : Int) (by omega) (by omega)).1
                      rw [Int.toNat_natCast] at h
                      rw [h, hp]
                      rfl
                    have hy8 : ∃ u, wr.cell? ⟨g8, i, none⟩ = some u := by
                      have h := (Kd.R_celln 0 m8.out (i : Int) (by omega) (by omega)).1
                      rw [Int.toNat_natCast] at h
                      exact ⟨_, h⟩
                    obtain ⟨u8_, y8⟩ := hy8
                    have f8 := (Kd.R_celln 0 m8.out (i : Int) (by omega) (by omega)).2
                    rw [Int.toNat_natCast] at f8
                    rw [← hp] at hsa
                    have HSA2 := am_ hsa.symm
                    have q0 : (0 : Int) ≤ (j : Int) := by omega
                    have q1 : (j : Int) < (n6 : Int) := by omega
                    have q2 : (j : Int) < (PA.length : Int) := by omega
                    have q3 : (0 : Int) ≤ (i : Int) := by omega
                    have q4 : (i : Int) < (xs.length : Int) := by omega
                    have tj : (j : Int).toNat = j := Int.toNat_natCast j
                    have ti : (i : Int).toNat = i := Int.toNat_natCast i
                    clear hj hjo hjp hi hp hsa
                    go_wp2
                    have hp8 := Kd.R_putn m8.out (i : Int) p
                    rw [Int.toNat_natCast] at hp8
                    have k8 := am_ hp8
                    have k9 := am_ (R_offset m9.out (g := g8) (fun q hq he => N89.out (by injection hq with hq; exact (hq.trans he).symm)) i (.int .i64 p))
                    have k6 := am_ (R_offset m6.out (g := g8) AP7.out i (.int .i64 p))
                    have kb := am_ (below_set (j := i) (v := .int .i64 p) mb.out hg8)
                    clear hp8
                    go_roundw
                    case rel => exact ⟨j + 1, cur.set i p, by go_num, ⟨by omega⟩, ⟨by rw [List.length_set]; exact HOL.out⟩, HSA2, ⟨(by (with_reducible repeat first | apply ra_ | apply rn_ | apply rd_); exact k9.out)⟩, ⟨(by (with_reducible repeat first | apply ra_ | apply rn_ | apply rd_); exact k6.out)⟩, ⟨(by (with_reducible repeat first | apply ra_ | apply rn_ | apply rd_); exact k8.out)⟩, ⟨(by repeat first | (with_reducible first | exact kb.out | apply ba_ | apply bn_ | apply bd_) | exact kb.out)⟩⟩
                    case measure => simp [intOf]; omega
                  · have cj : decide (j < n6) = false := decide_eq_false hj
                    have hj2 : j = n6 := by have := HJ.out; omega
                    have hsa := HSA.out
                    rw [hj2, List.drop_eq_nil_of_le (by have := HOL6.out; omega)] at hsa
                    have HCU := am_ (show cur = setAll out ON PA from by rw [← hsa]; simp [setAll])
                    have HC9 := am_ (R_cap m9.out)
                    have hsum := HPK.out.2
                    have HPB := am_ (show ∀ x ∈ PA, 0 ≤ x ∧ x ≤ 1000000000 from fun x hx => by
                      have h1 := fits_mem _ _ HPK.out.1 x hx
                      have h2 := sumI_mem PA (fits_mem _ _ HPK.out.1) x hx
                      refine ⟨h1, ?_⟩
                      rw [hsum] at h2
                      split at h2 <;> omega)
                    obtain ⟨SP, hSP⟩ : ∃ s, s = sumI PA := ⟨_, rfl⟩
                    have hsp0 : 0 ≤ SP := by rw [hSP]; exact sumI_nonneg _ (fits_mem _ _ HPK.out.1)
                    have hsp1 : SP ≤ c := by rw [hSP, hsum]; split <;> omega
                    have HSM := am_ (fun W h => sumOf_c (some ⟨g9, 0, none⟩) PA.length c9 PA W rfl h HC9.out HPB.out (by have := HN9.out; have := HOL6.out; have := HDL6.out; omega))
                    rw [← hSP] at HSM HF3
                    have HFS := am_ (show serveI xs (rs.drop (k + 1)) cur (c - SP) = FIN from by rw [HCU.out]; exact HF3.out)
                    clear hj hj2 hsa hsum hSP
                    go_wp2_with (go_at_call 83; refine (HSM.out _ (by repeat first | exact (R_C m9.out) | with_reducible refine ca_ ?_ _ | with_reducible refine cn_ ?_ _ | with_reducible refine cd_ ?_)).mono ?_; rintro e w2_ ⟨rfl, ⟨m_, rfl⟩⟩)
                    go_roundw
                    case rel => exact ⟨k + 1, c - SP, cur, by go_num, by go_num, ⟨by omega⟩, ⟨by omega⟩, HOL, HFS, ⟨(by (with_reducible repeat first | apply ra_ | apply rn_ | apply rd_); exact m8.out)⟩, ⟨(by repeat first | (with_reducible first | exact mb.out | apply ba_ | apply bn_ | apply bd_) | exact mb.out)⟩⟩
                    case measure => simp [intOf]; omega
        | cons a t =>
          have hlt := len_cons HX.out
          have hpl : (pre.length : Int) < xs.length := by omega
          obtain ⟨ad, e0, hx0, hx1⟩ := at_T49 HR0.out (pre.length : Int) (by omega) hpl
          rw [rd_T49_at HX.out rfl] at hx0 hx1
          simp only [Int.toNat_natCast] at hx0 hx1
          cases e0
          replace hx0 := (HB.out.cell (World.block_lt_of_cell? w _ hx0)).trans hx0
          replace hx1 := (HB.out.cell (World.block_lt_of_cell? w _ hx1)).trans hx1
          have c2 : decide (pre.length < xs.length) = true := decide_eq_true (by omega)
          have c2' : pre.length < xs.length := by omega
          have HOS := am_ (ownL_snoc r pre a 0)
          have HDS := am_ (dueL_snoc r pre a)
          have HSX := am_ (snoc HX.out)
          have HL6 := am_ (show (ownL r pre 0).length ≤ 20 from by rw [ownL_length]; have := dueL_len r pre; omega)
          have HL7 := am_ (show (dueL r pre).length ≤ 20 from by have := dueL_len r pre; omega)
          clear hlt
          go_upto_region 9 with (fail)
          clear hx0 hx1
          obtain ⟨W1, hW1⟩ : ∃ W1, W1 = wr.alloc (.cells #[.int .i64 a.f0, .int .i64 a.f1] 49) := ⟨_, rfl⟩
          have HKK := am_ (show W1.heap[wr.heap.size]? = some (.cells #[.int .i64 a.f0, .int .i64 a.f1] 49 (0, 0)) from by rw [hW1]; exact blk_new wr _)
          have n6 := am_ (show (Kd.int .i64).R 3 W1 w.heap.size (fun _ => True) u11 ((ownL r pre 0).map (fun (n : Nat) => (n : Int))) from by rw [hW1]; exact Kd.R_alloc HO6.out _)
          have n7 := am_ (show (Kd.int .i64).R 3 W1 w.heap.size (fun _ => True) u12 (dueL r pre) from by rw [hW1]; exact Kd.R_alloc HO7.out _)
          have n8 := am_ (show (Kd.int .i64).R 3 W1 w.heap.size (fun _ => True) v8 out from by rw [hW1]; exact Kd.R_alloc HO8.out _)
          have nb := am_ (show Below w.heap.size w W1 from by rw [hW1]; exact below_alloc HB.out _)
          have TN6 : ∀ k, u11.ownBlock = some k → k ≠ wr.heap.size := fun k hk => Nat.ne_of_lt (R_ownlt HO6.out hk).2
          have HTN := am_ TN6
          rw [← hW1]
          clear hW1 HO6 HO7 HO8 HB TN6
          generalize wr.heap.size = B at HKK HTN ⊢
          have hk0 := (blk_cell HKK.out 0).trans rfl
          have hl6 := HL6.out
          have hl7 := HL7.out
          have hml : ((ownL r pre 0).map (fun (n : Nat) => (n : Int))).length = (ownL r pre 0).length := List.length_map _
          obtain ⟨OW, hOW⟩ : ∃ O, O = (ownL r pre 0).map (fun (n : Nat) => (n : Int)) := ⟨_, rfl⟩
          obtain ⟨DU, hDU⟩ : ∃ D, D = dueL r pre := ⟨_, rfl⟩
          rw [← hOW] at n6 hml
          rw [← hDU] at n7 hl7
          have HOW := am_ hOW
          have HDU := am_ hDU
          have hl6' : OW.length ≤ 20 := by omega
          clear hOW hDU hml hl6
          by_cases hm : a.f0 = r
          · have HON := am_ (show (ownL r (pre ++ [a]) 0).map (fun (n : Nat) => (n : Int)) = OW ++ [(pre.length : Int)] from by rw [HOS.out, if_pos hm, List.map_append, HOW.out]; simp)
            have HDN := am_ (show dueL r (pre ++ [a]) = DU ++ [a.f1] from by rw [HDS.out, if_pos hm, HDU.out])
            have cm : (a.f0 == r) = true := by simp [hm]
            have cm2 : decide (a.f0 = r) = true := decide_eq_true hm
            clear hm
            go_wp2_with (first
              | (((with_reducible refine gate_builtin (b := .append) (xs := #[.tmp 40, .tmp 42]) rfl ?_); at_builtin; refine Kd.R_append (Kd.int .i64) (w0 := w) w.heap.size rfl (.tmp 40) (.tmp 42) 51 3 (.int .i64 0) 8 rfl Try.underlying51 infoI rfl (by decide) (by omega) u11 OW (pre.length : Int) [.int .i64 (pre.length : Int)] (fun _ => True) (fun _ => False) rfl rfl ?aP (fun _ hk => hk.elim) ?aF ?aO ?aB ?aS ?aL ?_; (case aP => exact rfl); (case aB => exact (by repeat first | (with_reducible first | exact nb.out | apply ba_ | apply bn_ | apply bd_) | exact nb.out)); (case aF => exact (fun _ _ => trivial)); (case aO => exact (by (with_reducible repeat first | apply ra_ | apply rn_ | apply rd_); exact n6.out)); (case aS => exact (below_size (by repeat first | (with_reducible first | exact nb.out | apply ba_ | apply bn_ | apply bd_) | exact nb.out))); (case aL => omega); intro v1 w1 ho hb hg hat); have m6 := am_ ho; have m7 := am_ (R_offrow (by (with_reducible repeat first | apply ra_ | apply rn_ | apply rd_); exact n7.out) hg AP3.out.symm); have m8 := am_ (R_offrow (by (with_reducible repeat first | apply ra_ | apply rn_ | apply rd_); exact n8.out) hg AP1.out); have mk_ := am_ (blk_grown HKK.out hg (by intro e; exact HTN.out B e.symm rfl)); have ma := am_ (Ap.app AP1.out (by (with_reducible repeat first | apply ra_ | apply rn_ | apply rd_); exact n8.out) hat); have mc := am_ ((Ap.app AP3.out.symm (by (with_reducible repeat first | apply ra_ | apply rn_ | apply rd_); exact n7.out) hat).symm); clear n6 n7 n8 nb HKK AP1 AP3 HTN; have n6 := m6; have n7 := m7; have n8 := m8; have HKK := mk_; have AP1 := ma; have AP3 := mc; have nb := am_ hb; clear m6 m7 m8 mk_ ma mc ho hb hg hat; have hk1 := (blk_cell HKK.out 1).trans rfl)
              | (((with_reducible refine gate_builtin (b := .append) (xs := #[.tmp 44, .tmp 47]) rfl ?_); at_builtin; refine Kd.R_append (Kd.int .i64) (w0 := w) w.heap.size rfl (.tmp 44) (.tmp 47) 51 3 (.int .i64 0) 8 rfl Try.underlying51 infoI rfl (by decide) (by omega) u12 DU a.f1 [.int .i64 a.f1] (fun _ => True) (fun _ => False) rfl rfl ?aP (fun _ hk => hk.elim) ?aF ?aO ?aB ?aS ?aL ?_; (case aP => exact rfl); (case aB => exact (by repeat first | (with_reducible first | exact nb.out | apply ba_ | apply bn_ | apply bd_) | exact nb.out)); (case aF => exact (fun _ _ => trivial)); (case aO => exact (by (with_reducible repeat first | apply ra_ | apply rn_ | apply rd_); exact n7.out)); (case aS => exact (below_size (by repeat first | (with_reducible first | exact nb.out | apply ba_ | apply bn_ | apply bd_) | exact nb.out))); (case aL => omega); intro v1 w1 ho hb hg hat); have m7 := am_ ho; have m6 := am_ (R_offrow (by (with_reducible repeat first | apply ra_ | apply rn_ | apply rd_); exact n6.out) hg AP3.out); have m8 := am_ (R_offrow (by (with_reducible repeat first | apply ra_ | apply rn_ | apply rd_); exact n8.out) hg AP2.out); have ma := am_ (Ap.app AP2.out (by (with_reducible repeat first | apply ra_ | apply rn_ | apply rd_); exact n8.out) hat); have mc := am_ (Ap.app AP3.out (by (with_reducible repeat first | apply ra_ | apply rn_ | apply rd_); exact n6.out) hat); clear n6 n7 n8 nb AP2 AP3; have n6 := m6; have n7 := m7; have n8 := m8; have AP2 := ma; have AP3 := mc; have nb := am_ hb; clear m6 m7 m8 ma mc ho hb hg hat))
            go_roundw
            case rel => exact ⟨pre ++ [a], t, by rw [len_snoc], HSX, ⟨by rw [HON.out]; exact (by (with_reducible repeat first | apply ra_ | apply rn_ | apply rd_); exact n6.out)⟩, ⟨by rw [HDN.out]; exact (by (with_reducible repeat first | apply ra_ | apply rn_ | apply rd_); exact n7.out)⟩, ⟨(by (with_reducible repeat first | apply ra_ | apply rn_ | apply rd_); exact n8.out)⟩, AP1, AP2, AP3, ⟨(by repeat first | (with_reducible first | exact nb.out | apply ba_ | apply bn_ | apply bd_) | exact nb.out)⟩⟩
            case measure => simp [intOf]; omega
          · have HON := am_ (show (ownL r (pre ++ [a]) 0).map (fun (n : Nat) => (n : Int)) = OW from by rw [HOS.out, if_neg hm, List.append_nil, HOW.out])
            have HDN := am_ (show dueL r (pre ++ [a]) = DU from by rw [HDS.out, if_neg hm, List.append_nil, HDU.out])
            have cm : (a.f0 == r) = false := by simp [hm]
            have cm2 : decide (a.f0 = r) = false := decide_eq_false hm
            clear hm
            go_wp2
            go_roundw
            case rel => exact ⟨pre ++ [a], t, by rw [len_snoc], HSX, ⟨by rw [HON.out]; exact (by (with_reducible repeat first | apply ra_ | apply rn_ | apply rd_); exact n6.out)⟩, ⟨by rw [HDN.out]; exact (by (with_reducible repeat first | apply ra_ | apply rn_ | apply rd_); exact n7.out)⟩, ⟨(by (with_reducible repeat first | apply ra_ | apply rn_ | apply rd_); exact n8.out)⟩, AP1, AP2, AP3, ⟨(by repeat first | (with_reducible first | exact nb.out | apply ba_ | apply bn_ | apply bd_) | exact nb.out)⟩⟩
            case measure => simp [intOf]; omega
    · have hk2 : k = rs.length := by have := HK.out; omega
      have hf := HF.out
      rw [hk2, List.drop_length] at hf
      have c1 : decide (k < rs.length) = false := decide_eq_false hk
      have HFE := am_ (show FIN = (out, c) from hf.symm)
      clear hk hf hk2 HF HK
      go_wp2
      go_ret2
      exact ⟨_, by rw [HFE.out]; rfl, by rw [HFE.out]; exact (by (with_reducible repeat first | apply ra_ | apply rn_ | apply rd_); exact HO8.out), (by repeat first | (with_reducible first | exact HB.out | apply ba_ | apply bn_ | apply bd_) | exact HB.out)⟩
end Go.Proofs.Ytbnhpkkkijjkkaa.O
