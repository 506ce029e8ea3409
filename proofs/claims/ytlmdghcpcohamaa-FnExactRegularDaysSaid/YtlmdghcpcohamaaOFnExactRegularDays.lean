/- The program's RegularDays, and the reference's, answer as one plain function does. No other condition. -/
import Derived.Test.YtlmdghcpcohamaaPureFnExactRegularDays
import Derived.Deep.RegionWith
import Derived.Shelf.Sort.Plain
import Derived.Shelf.Lays
import Derived.Test.YtlmdghcpcohamaaOFnExactRegularDaysa
import Derived.Test.YtlmdghcpcohamaaOFnExactRegularDaysb
import Derived.Test.YtlmdghcpcohamaaOFnExactRegularDaysc
import Derived.Test.YtlmdghcpcohamaaOFnExactRegularDaysd
namespace Go.Proofs.Ytlmdghcpcohamaa.O
open Go.RowKit Go.Proofs.YtlmdghcpcohamaaW.PrintWords Go.Proofs.YtlmdghcpcohamaaW.PrintLast Go.Proofs.YtlmdghcpcohamaaW.PrintMore Go.Proofs.Ytlmdghcpcohamaa.PL14R Go.Proofs.Ytlmdghcpcohamaa.EvKit Go.Proofs.Ytlmdghcpcohamaa.Pure
set_option linter.unusedVariables false
set_option linter.unusedSimpArgs false
attribute [local go_sem] max2_int min2_int max_two min_two max_three min_three max_four min_four
theorem spec_c (a0 a1 a2 : Int) (a3 : Bool) (w : World) :
    Calls Try.prog 41 #[.int .i64 a0, .int .i64 a1, .int .i64 a2, .bool a3] w fun e w' => ∃ v, e = .returned (.tuple #[v, .bool (regA a0 a1 a2 a3).2]) ∧ (Kd.int .i64).R 3 w' w.heap.size (fun _ => True) v (regA a0 a1 a2 a3).1 ∧ Below w.heap.size w w' := regS_c a0 a1 a2 a3 w
theorem impl_c (a0 a1 a2 : Int) (a3 : Bool) (w : World) :
    Calls Try.prog 42 #[.int .i64 a0, .int .i64 a1, .int .i64 a2, .bool a3] w fun e w' => ∃ v, e = .returned (.tuple #[v, .bool (regA a0 a1 a2 a3).2]) ∧ (Kd.int .i64).R 3 w' w.heap.size (fun _ => True) v (regA a0 a1 a2 a3).1 ∧ Below w.heap.size w w' := regI_c a0 a1 a2 a3 w
set_option maxHeartbeats 16000000 in
set_option maxRecDepth 100000 in
theorem law_c (a0 : Int) (a1 : Int) (a2 : Int) (a3 : Bool) (w : World) (hi0 : -9223372036854775808 ≤ a0 ∧ a0 ≤ 9223372036854775807) (hi1 : -9223372036854775808 ≤ a1 ∧ a1 ≤ 9223372036854775807) (hi2 : -9223372036854775808 ≤ a2 ∧ a2 ≤ 9223372036854775807) :
    Calls Try.prog 10 #[.int .i64 a0, .int .i64 a1, .int .i64 a2, .bool a3] w fun e w' => e = .returned (.bool true) ∧ Below w.heap.size w w' := by
  have HL0 := am_ (show ((regA a0 a1 a2 a3).1).length ≤ 1048576 from Nat.le_trans (regA_len a0 a1 a2 a3) (by decide))
  have HB0 := am_ (Below.refl w.heap.size w)
  obtain ⟨kX0, hX0⟩ := roundsOf (eqIntS_ev (regA a0 a1 a2 a3).1 (by have h_ := HL0.out; omega))
  have X0 := am_ hX0
  clear hX0
  obtain ⟨kX1, hX1⟩ := roundsOf (markIntS_ev (regA a0 a1 a2 a3).1 1 (by omega) (by have h_ := HL0.out; omega) (by have h_ := HL0.out; omega))
  obtain ⟨mX1, eX1⟩ : ∃ m_ : Int, m_ = 1 + (((regA a0 a1 a2 a3).1).length : Int) := ⟨_, rfl⟩
  rw [← eX1] at hX1
  obtain ⟨UX1, uX1⟩ : ∃ U_ : List Int, U_ = upFrom ((regA a0 a1 a2 a3).1).length 1 := ⟨_, rfl⟩
  rw [← uX1] at hX1
  have VX1 := am_ (show UX1.length = ((regA a0 a1 a2 a3).1).length from by rw [uX1, upFrom_length])
  have ZX1 := am_ uX1
  clear uX1
  have cX1 : decide (mX1 < 0) = false := decide_eq_false (by omega)
  have PX1 := am_ (show 0 ≤ mX1 ∧ mX1 ≤ 1 + 8388608 from by have h_ := HL0.out; omega)
  have MX1 := am_ eX1
  clear eX1
  have X1 := am_ hX1
  clear hX1
  obtain ⟨kX2, hX2⟩ := roundsOf (heldIntS_ev ((regA a0 a1 a2 a3).1).length 1 (by omega) (by have h_ := HL0.out; omega) (by have h_ := HL0.out; omega))
  rw [← MX1.out, ← ZX1.out] at hX2
  have X2 := am_ hX2
  clear hX2
  go_enter Try.func10, Try.ntmps10
  go_wp2_with fail
  refine (spec_c a0 a1 a2 a3 _  ).mono ?_
  rintro e w1 ⟨v, rfl, ho, hb⟩
  have HB1 := am_ (below_step (by repeat (first | (with_reducible first | exact HB0.out | apply below_alloc | apply pw_below_drewN | apply below_drew1) | exact HB0.out)) hb)
  have SZ1 := am_ (show w.heap.size ≤ w1.heap.size from below_size (below_step (by repeat (first | (with_reducible first | exact Below.refl _ _ | apply below_alloc | apply pw_below_drewN | apply below_drew1) | exact Below.refl _ _)) hb))
  have HOw0 := am_ (R_ivw (a := w.heap.size) (b := w.heap.size) ho (below_size (by repeat (first | (with_reducible first | exact Below.refl _ _ | apply below_alloc | apply pw_below_drewN | apply below_drew1) | exact Below.refl _ _))) (below_size (by repeat (first | (with_reducible first | exact HB0.out | apply below_alloc | apply pw_below_drewN | apply below_drew1) | exact HB0.out))))
  obtain ⟨Arw0, crw0, erw0⟩ := Kd.R_slice HOw0.out
  subst erw0
  clear ho hb
  go_wp2_with fail
  refine (impl_c a0 a1 a2 a3 _  ).mono ?_
  rintro e w2 ⟨v, rfl, ho, hb⟩
  have n_ := am_ (Kd.R_below (by (with_reducible repeat (first | apply Kd.R_alloc | apply Kd.R_drewN | apply Kd.R_drew)); exact HOw0.out) hb); clear HOw0; have HOw0 := n_; clear n_
  have HB2 := am_ (below_step (by repeat (first | (with_reducible first | exact HB1.out | apply below_alloc | apply pw_below_drewN | apply below_drew1) | exact HB1.out)) hb)
  have SZ2 := am_ (show w1.heap.size ≤ w2.heap.size from below_size (below_step (by repeat (first | (with_reducible first | exact Below.refl _ _ | apply below_alloc | apply pw_below_drewN | apply below_drew1) | exact Below.refl _ _)) hb))
  have HOg0 := am_ (R_ivw (a := w1.heap.size) (b := w.heap.size) ho (below_size (by repeat (first | (with_reducible first | exact Below.refl _ _ | apply below_alloc | apply pw_below_drewN | apply below_drew1) | exact Below.refl _ _))) (below_size (by repeat (first | (with_reducible first | exact HB1.out | apply below_alloc | apply pw_below_drewN | apply below_drew1) | exact HB1.out))))
  obtain ⟨Arg0, crg0, erg0⟩ := Kd.R_slice HOg0.out
  subst erg0
  clear ho hb
  go_wp2_with fail
  refine (laws_eqIntS.calls kX0 _ _ (regA a0 a1 a2 a3).1 _ _ (regA a0 a1 a2 a3).1 true _ (by repeat (first | exact (Kd.R_reads' HOg0.out).2.2 | (with_reducible refine Kd.C_alloc ?_ _) | (with_reducible refine Kd.C_drewN ?_ _) | (with_reducible refine Kd.C_drew ?_))) (Kd.R_reads' HOg0.out).2.1 (by repeat (first | exact (Kd.R_reads' HOw0.out).2.2 | (with_reducible refine Kd.C_alloc ?_ _) | (with_reducible refine Kd.C_drewN ?_ _) | (with_reducible refine Kd.C_drew ?_))) (Kd.R_reads' HOw0.out).2.1 X0.out).mono ?_
  rintro e w3 ⟨rfl, hb0⟩
  have hb := db_ hb0
  clear hb0
  have n_ := am_ (Kd.R_below (by (with_reducible repeat (first | apply Kd.R_alloc | apply Kd.R_drewN | apply Kd.R_drew)); exact HOw0.out) hb); clear HOw0; have HOw0 := n_; clear n_
  have n_ := am_ (Kd.R_below (by (with_reducible repeat (first | apply Kd.R_alloc | apply Kd.R_drewN | apply Kd.R_drew)); exact HOg0.out) hb); clear HOg0; have HOg0 := n_; clear n_
  have HB3 := am_ (below_step (by repeat (first | (with_reducible first | exact HB2.out | apply below_alloc | apply pw_below_drewN | apply below_drew1) | exact HB2.out)) hb)
  have SZ3 := am_ (show w2.heap.size ≤ w3.heap.size from below_size (below_step (by repeat (first | (with_reducible first | exact Below.refl _ _ | apply below_alloc | apply pw_below_drewN | apply below_drew1) | exact Below.refl _ _)) hb))
  clear hb
  go_wp2_with fail
  refine (laws_markIntS.calls kX1 (Iv w1.heap.size w2.heap.size) _ (regA a0 a1 a2 a3).1 1 _ _ w _ (by repeat (first | (with_reducible first | exact HB3.out | apply below_alloc | apply pw_below_drewN | apply below_drew1) | exact HB3.out)) (by (with_reducible repeat (first | apply Kd.R_alloc | apply Kd.R_drewN | apply Kd.R_drew)); exact HOg0.out) X1.out).mono ?_
  rintro e w4 ⟨rfl, ho, hb, hk⟩
  have n_ := am_ (Kd.R_kept (by (with_reducible repeat (first | apply Kd.R_alloc | apply Kd.R_drewN | apply Kd.R_drew)); exact HOw0.out) hk (fun k h1_ h2_ => by have a_ := h1_.1; have b_ := h1_.2; have c_ := h2_.1; have d_ := h2_.2; have SZ1_ := SZ1.out; have SZ2_ := SZ2.out; have SZ3_ := SZ3.out; omega)); clear HOw0; have HOw0 := n_; clear n_
  have HB4 := am_ hb
  have SZ4 := am_ (show w3.heap.size ≤ w4.heap.size from hk.1)
  have n_ := am_ (R_flat flat_int ho HOg0.out.1); clear HOg0; have HOg0 := n_; clear n_
  clear ho hb hk
  go_wp2_with fail
  refine calls_of_args (args' := #[.slice Arg0 UX1.length crg0, .int .i64 1]) (by rw [VX1.out]) ?_
  refine (laws_heldIntS.calls kX2 _ _ UX1 1 _ _ (by repeat (first | exact (Kd.R_reads' HOg0.out).2.2 | (with_reducible refine Kd.C_alloc ?_ _) | (with_reducible refine Kd.C_drewN ?_ _) | (with_reducible refine Kd.C_drew ?_))) (by rw [VX1.out]; exact (Kd.R_reads' HOg0.out).2.1) X2.out).mono ?_
  rintro e w5 ⟨rfl, hb0⟩
  have hb := db_ hb0
  clear hb0
  have n_ := am_ (Kd.R_below (by (with_reducible repeat (first | apply Kd.R_alloc | apply Kd.R_drewN | apply Kd.R_drew)); exact HOw0.out) hb); clear HOw0; have HOw0 := n_; clear n_
  have n_ := am_ (Kd.R_below (by (with_reducible repeat (first | apply Kd.R_alloc | apply Kd.R_drewN | apply Kd.R_drew)); exact HOg0.out) hb); clear HOg0; have HOg0 := n_; clear n_
  have HB5 := am_ (below_step (by repeat (first | (with_reducible first | exact HB4.out | apply below_alloc | apply pw_below_drewN | apply below_drew1) | exact HB4.out)) hb)
  have SZ5 := am_ (show w4.heap.size ≤ w5.heap.size from below_size (below_step (by repeat (first | (with_reducible first | exact Below.refl _ _ | apply below_alloc | apply pw_below_drewN | apply below_drew1) | exact Below.refl _ _)) hb))
  clear hb
  go_wp2_with fail
  refine (impl_c a0 a1 a2 a3 _  ).mono ?_
  rintro e w6 ⟨v, rfl, ho, hb⟩
  have n_ := am_ (Kd.R_below (by (with_reducible repeat (first | apply Kd.R_alloc | apply Kd.R_drewN | apply Kd.R_drew)); exact HOw0.out) hb); clear HOw0; have HOw0 := n_; clear n_
  have n_ := am_ (Kd.R_below (by (with_reducible repeat (first | apply Kd.R_alloc | apply Kd.R_drewN | apply Kd.R_drew)); exact HOg0.out) hb); clear HOg0; have HOg0 := n_; clear n_
  have HB6 := am_ (below_step (by repeat (first | (with_reducible first | exact HB5.out | apply below_alloc | apply pw_below_drewN | apply below_drew1) | exact HB5.out)) hb)
  have SZ6 := am_ (show w5.heap.size ≤ w6.heap.size from below_size (below_step (by repeat (first | (with_reducible first | exact Below.refl _ _ | apply below_alloc | apply pw_below_drewN | apply below_drew1) | exact Below.refl _ _)) hb))
  have HOh0 := am_ (R_ivw (a := w5.heap.size) (b := w.heap.size) ho (below_size (by repeat (first | (with_reducible first | exact Below.refl _ _ | apply below_alloc | apply pw_below_drewN | apply below_drew1) | exact Below.refl _ _))) (below_size (by repeat (first | (with_reducible first | exact HB5.out | apply below_alloc | apply pw_below_drewN | apply below_drew1) | exact HB5.out))))
  obtain ⟨Arh0, crh0, erh0⟩ := Kd.R_slice HOh0.out
  subst erh0
  clear ho hb
  go_wp2_with fail
  refine (laws_eqIntS.calls kX0 _ _ (regA a0 a1 a2 a3).1 _ _ (regA a0 a1 a2 a3).1 true _ (by repeat (first | exact (Kd.R_reads' HOh0.out).2.2 | (with_reducible refine Kd.C_alloc ?_ _) | (with_reducible refine Kd.C_drewN ?_ _) | (with_reducible refine Kd.C_drew ?_))) (Kd.R_reads' HOh0.out).2.1 (by repeat (first | exact (Kd.R_reads' HOw0.out).2.2 | (with_reducible refine Kd.C_alloc ?_ _) | (with_reducible refine Kd.C_drewN ?_ _) | (with_reducible refine Kd.C_drew ?_))) (Kd.R_reads' HOw0.out).2.1 X0.out).mono ?_
  rintro e w7 ⟨rfl, hb0⟩
  have hb := db_ hb0
  clear hb0
  have n_ := am_ (Kd.R_below (by (with_reducible repeat (first | apply Kd.R_alloc | apply Kd.R_drewN | apply Kd.R_drew)); exact HOw0.out) hb); clear HOw0; have HOw0 := n_; clear n_
  have n_ := am_ (Kd.R_below (by (with_reducible repeat (first | apply Kd.R_alloc | apply Kd.R_drewN | apply Kd.R_drew)); exact HOg0.out) hb); clear HOg0; have HOg0 := n_; clear n_
  have n_ := am_ (Kd.R_below (by (with_reducible repeat (first | apply Kd.R_alloc | apply Kd.R_drewN | apply Kd.R_drew)); exact HOh0.out) hb); clear HOh0; have HOh0 := n_; clear n_
  have HB7 := am_ (below_step (by repeat (first | (with_reducible first | exact HB6.out | apply below_alloc | apply pw_below_drewN | apply below_drew1) | exact HB6.out)) hb)
  have SZ7 := am_ (show w6.heap.size ≤ w7.heap.size from below_size (below_step (by repeat (first | (with_reducible first | exact Below.refl _ _ | apply below_alloc | apply pw_below_drewN | apply below_drew1) | exact Below.refl _ _)) hb))
  clear hb
  go_wp2_with fail
  refine calls_of_args (args' := #[.slice Arg0 UX1.length crg0, .int .i64 1]) (by rw [VX1.out]) ?_
  refine (laws_heldIntS.calls kX2 _ _ UX1 1 _ _ (by repeat (first | exact (Kd.R_reads' HOg0.out).2.2 | (with_reducible refine Kd.C_alloc ?_ _) | (with_reducible refine Kd.C_drewN ?_ _) | (with_reducible refine Kd.C_drew ?_))) (by rw [VX1.out]; exact (Kd.R_reads' HOg0.out).2.1) X2.out).mono ?_
  rintro e w8 ⟨rfl, hb0⟩
  have hb := db_ hb0
  clear hb0
  have n_ := am_ (Kd.R_below (by (with_reducible repeat (first | apply Kd.R_alloc | apply Kd.R_drewN | apply Kd.R_drew)); exact HOw0.out) hb); clear HOw0; have HOw0 := n_; clear n_
  have n_ := am_ (Kd.R_below (by (with_reducible repeat (first | apply Kd.R_alloc | apply Kd.R_drewN | apply Kd.R_drew)); exact HOg0.out) hb); clear HOg0; have HOg0 := n_; clear n_
  have n_ := am_ (Kd.R_below (by (with_reducible repeat (first | apply Kd.R_alloc | apply Kd.R_drewN | apply Kd.R_drew)); exact HOh0.out) hb); clear HOh0; have HOh0 := n_; clear n_
  have HB8 := am_ (below_step (by repeat (first | (with_reducible first | exact HB7.out | apply below_alloc | apply pw_below_drewN | apply below_drew1) | exact HB7.out)) hb)
  have SZ8 := am_ (show w7.heap.size ≤ w8.heap.size from below_size (below_step (by repeat (first | (with_reducible first | exact Below.refl _ _ | apply below_alloc | apply pw_below_drewN | apply below_drew1) | exact Below.refl _ _)) hb))
  clear hb
  go_wp2
  go_ret
  exact ⟨rfl, (by repeat (first | (with_reducible first | exact HB8.out | apply below_alloc | apply pw_below_drewN | apply below_drew1) | exact HB8.out))⟩
end Go.Proofs.Ytlmdghcpcohamaa.O
