/- The machine side of a law: for each function that it uses a Lean function and the proof that the code comes to its answers. Written by a program and turned by another. No condition beyond the bounds that each contract names. -/
import Derived.Test.YtlmdghcpcohamaaVFnExactMakeSchedulex0
import Derived.Test.YtlmdghcpcohamaaVFnExactMakeSchedulex1
import Derived.Test.YtlmdghcpcohamaaVFnExactMakeSchedulex2
import Derived.Test.YtlmdghcpcohamaaVFnExactMakeSchedulex6
import Derived.Test.YtlmdghcpcohamaaVFnExactMakeSchedulex7
import Derived.Test.YtlmdghcpcohamaaVFnExactMakeSchedulex11
import Derived.Test.YtlmdghcpcohamaaVFnExactMakeSchedulex12
namespace Go.Proofs.Ytlmdghcpcohamaa.PFnExactMakeSchedule
open Go.RowKit Go.Proofs.YtlmdghcpcohamaaW.PrintWords Go.Proofs.YtlmdghcpcohamaaW.PrintLast Go.Proofs.YtlmdghcpcohamaaW.PrintMore
attribute [local go_sem] max2_int min2_int max_two min_two max_three min_three max_four min_four   -- for this text's walks alone
set_option linter.unusedVariables false
set_option linter.unusedSimpArgs false

/-! ### laws_FnExactMakeSchedule: function 9 -/
mutual
def laws_FnExactMakeSchedule.j0 : Nat → List Int → Int → Int → List (S60) → Bool → List Int → List (S60) → Bool → Bool → List Int → List Int → List Int → List Int → Option (Bool)
  | 0, _, _, _, _, _, _, _, _, _, _, _, _, _ => none
  | k + 1, x0, x2, x3, x10, x11, x12, x14, x15, x59, x286000, x286001, x310000, x310001 => if x59 = true then (some false) else ((laws_toIntS.f k x0).bind fun t315 => ((laws_eqIntS.f k x12 t315).bind fun t318 => (if t318 = true then ((laws_toCalendar.f k x286000 x286001).bind fun bt319 => ((laws_eqCalendar.f k x310000 x310001 bt319.1 bt319.2).bind fun t325 => (if t325 = true then ((laws_markIntS.f k x12 1).bind fun bt326 => ((laws_markCalendar.f k x310000 x310001 bt326.1).bind fun bt328 => (if bt328.1 < 0 then (laws_FnExactMakeSchedule.j1 k x0 x2 x3 x10 x11 x14 true x286000 x286001) else ((laws_eqPeriodS.f k x14 x10).bind fun t331 => (if t331 = true then (laws_FnExactMakeSchedule.j1 k x0 x2 x3 x10 x11 x14 (x15 != x11) x286000 x286001) else (laws_FnExactMakeSchedule.j1 k x0 x2 x3 x10 x11 x14 true x286000 x286001)))))) else (some false)))) else (some false))))
def laws_FnExactMakeSchedule.j1 : Nat → List Int → Int → Int → List (S60) → Bool → List (S60) → Bool → List Int → List Int → Option (Bool)
  | 0, _, _, _, _, _, _, _, _, _ => none
  | k + 1, x0, x2, x3, x10, x11, x14, x88, x286000, x286001 => if x88 = true then (some false) else ((laws_markPeriodS.f k x14 1).bind fun bt332 => ((laws_heldPeriodS.f k bt332.2 1).bind fun t334 => (if t334 < 0 then (some false) else (if t334 = bt332.1 then ((laws_toIntS.f k x0).bind fun t335 => ((laws_toCalendar.f k x286000 x286001).bind fun bt338 => ((impl_MakeSchedule.f k t335 bt338.1 bt338.2 x2 x3).bind fun bt344 => ((laws_eqPeriodS.f k bt344.1 x10).bind fun t348 => (if t348 = true then (laws_FnExactMakeSchedule.j2 k bt332.2 bt332.1 (bt344.2 != x11)) else (laws_FnExactMakeSchedule.j2 k bt332.2 bt332.1 true)))))) else (some false)))))
def laws_FnExactMakeSchedule.j2 : Nat → List (S60) → Int → Bool → Option (Bool)
  | 0, _, _, _ => none
  | k + 1, x14, x17, x118 => if x118 = true then (some false) else ((laws_heldPeriodS.f k x14 1).bind fun t349 => (if t349 < 0 then (some false) else (if t349 = x17 then (some true) else (some false))))
end
def laws_FnExactMakeSchedule.f (k : Nat) (l0 : List Int) (l1_0 : List Int) (l1_1 : List Int) (a2 : Int) (a3 : Int) : Option (Bool) := if (l0.length : Int) > 1048576 then (some true) else ((laws_szCalendar.f l1_0 l1_1 1048576).bind fun t286 => (if t286 < 0 then (some true) else ((laws_toIntS.f k l0).bind fun t287 => ((laws_toCalendar.f k l1_0 l1_1).bind fun bt290 => ((spec_MakeSchedule.f k t287 bt290.1 bt290.2 a2 a3).bind fun bt296 => ((laws_toIntS.f k l0).bind fun t300 => ((laws_toCalendar.f k l1_0 l1_1).bind fun bt303 => ((impl_MakeSchedule.f k t300 bt303.1 bt303.2 a2 a3).bind fun bt310 => ((laws_eqPeriodS.f k bt310.1 bt296.1).bind fun t314 => (if t314 = true then (laws_FnExactMakeSchedule.j0 k l0 a2 a3 bt296.1 bt296.2 t300 bt310.1 bt310.2 (bt310.2 != bt296.2) l1_0 l1_1 bt303.1 bt303.2) else (laws_FnExactMakeSchedule.j0 k l0 a2 a3 bt296.1 bt296.2 t300 bt310.1 bt310.2 true l1_0 l1_1 bt303.1 bt303.2)))))))))))
def laws_FnExactMakeSchedule.T7 : Bool × List (List Nat × List Nat) := (true, [([], []), ([0], [0]), ([], []), ([2, 1], [2]), ([], []), ([], []), ([1, 3, 4, 5, 3], [1, 3, 4, 5]), ([6], [6]), ([7], [7]), ([7], [7]), ([8, 6, 0, 1, 2, 3, 4, 5, 6, 7, 8], [8]), ([9, 10, 0, 1, 2, 3, 4, 5, 6, 7, 8, 9, 10], [9])])
def laws_FnExactMakeSchedule.B7 : List Nat := [0, 1, 0, 7, 0, 0, 63, 127, 255, 255, 511, 2047]
theorem laws_FnExactMakeSchedule.tab7 : rtab .any (opsOf Try.f9 7) = laws_FnExactMakeSchedule.T7 := by kernel_rfl
theorem laws_FnExactMakeSchedule.bits7 : waitsOk laws_FnExactMakeSchedule.T7.2 laws_FnExactMakeSchedule.B7 = true := by kernel_rfl
def laws_FnExactMakeSchedule.T30 : Bool × List (List Nat × List Nat) := (true, [([], []), ([0], [0]), ([], []), ([2, 1], [2]), ([], []), ([], []), ([1, 3, 4, 5, 3], [1, 3, 4, 5]), ([6], [6]), ([7], [7]), ([7], [7]), ([8, 6, 0, 1, 2, 3, 4, 5, 6, 7, 8], [8]), ([9, 10, 0, 1, 2, 3, 4, 5, 6, 7, 8, 9, 10], [9])])
def laws_FnExactMakeSchedule.B30 : List Nat := [0, 1, 0, 7, 0, 0, 63, 127, 255, 255, 511, 2047]
theorem laws_FnExactMakeSchedule.tab30 : rtab .any (opsOf Try.f9 30) = laws_FnExactMakeSchedule.T30 := by kernel_rfl
theorem laws_FnExactMakeSchedule.bits30 : waitsOk laws_FnExactMakeSchedule.T30.2 laws_FnExactMakeSchedule.B30 = true := by kernel_rfl
set_option maxHeartbeats 8000000 in
set_option maxRecDepth 100000 in
theorem laws_FnExactMakeSchedule.calls (k : Nat) (A0 : Option Addr) (c0 : Nat) (l0 : List Int) (A1_0 : Option Addr) (c1_0 : Nat) (l1_0 : List Int) (A1_1 : Option Addr) (c1_1 : Nat) (l1_1 : List Int) (a2 : Int) (a3 : Int) (r : Bool) (w : World) (hr0 : Kd.C (Kd.int .i64) w A0 l0.length l0) (hc0 : l0.length ≤ c0) (hr1_0 : Kd.C (Kd.int .i64) w A1_0 l1_0.length l1_0) (hc1_0 : l1_0.length ≤ c1_0) (hr1_1 : Kd.C (Kd.int .i64) w A1_1 l1_1.length l1_1) (hc1_1 : l1_1.length ≤ c1_1) (h : laws_FnExactMakeSchedule.f k l0 l1_0 l1_1 a2 a3 = some r) :
    Calls Try.prog 9 #[.slice A0 l0.length c0, .agg #[.slice A1_0 l1_0.length c1_0, .slice A1_1 l1_1.length c1_1], .int .i64 a2, .int .i64 a3] w fun e w' => e = .returned (.bool r) ∧ Below w.heap.size w w' := by
  have hu45 := Try.underlying45
  have hu48 := Try.underlying48
  have HR0 := Aside0.mk hr0
  have HC0 := Aside0.mk hc0
  clear hr0 hc0
  have HR1_0 := Aside0.mk hr1_0
  have HC1_0 := Aside0.mk hc1_0
  clear hr1_0 hc1_0
  have HR1_1 := Aside0.mk hr1_1
  have HC1_1 := Aside0.mk hc1_1
  clear hr1_1 hc1_1
  have HB := Aside0.mk (Below.refl w.heap.size w)
  have H : (if (l0.length : Int) > 1048576 then (some true) else ((laws_szCalendar.f l1_0 l1_1 1048576).bind fun t286 => (if t286 < 0 then (some true) else ((laws_toIntS.f k l0).bind fun t287 => ((laws_toCalendar.f k l1_0 l1_1).bind fun bt290 => ((spec_MakeSchedule.f k t287 bt290.1 bt290.2 a2 a3).bind fun bt296 => ((laws_toIntS.f k l0).bind fun t300 => ((laws_toCalendar.f k l1_0 l1_1).bind fun bt303 => ((impl_MakeSchedule.f k t300 bt303.1 bt303.2 a2 a3).bind fun bt310 => ((laws_eqPeriodS.f k bt310.1 bt296.1).bind fun t314 => (if t314 = true then (laws_FnExactMakeSchedule.j0 k l0 a2 a3 bt296.1 bt296.2 t300 bt310.1 bt310.2 (bt310.2 != bt296.2) l1_0 l1_1 bt303.1 bt303.2) else (laws_FnExactMakeSchedule.j0 k l0 a2 a3 bt296.1 bt296.2 t300 bt310.1 bt310.2 true l1_0 l1_1 bt303.1 bt303.2)))))))))))) = some r := h
  clear h
  by_cases c5 : (l0.length : Int) > 1048576
  · rw [if_pos c5] at H
    have c5b0 : decide (1048576 < (l0.length : Int)) = true := decide_eq_true c5
    have c5b1 : decide (1048576 < l0.length) = true := decide_eq_true (by omega)
    clear c5
    obtain rfl := Option.some.inj H
    go_enter Try.func9, Try.ntmps9
    go_wp2_with (first | ((with_reducible refine gate_dst (N := 5) rfl ?_); refine box_event ?hg (N := 5) ?hd (cs := #[.slice A1_0 l1_0.length c1_0, .slice A1_1 l1_1.length c1_1]) (t := 45) ?hr ?_; (case hd => rfl); (case hg => rfl); (case hr => first | (go_simp; done) | (go_simp; rfl)); intro gb285 hg w6 hbox hb; have n0_ := Aside0.mk (below_step (by repeat (first | (with_reducible first | exact HB.out | apply below_alloc | apply pw_below_drewN | apply below_drew1) | exact HB.out)) hb); have n1_ := Aside0.mk (hbox); have n2_ := Aside0.mk ((by rw [hg]; exact (below_size (by repeat (first | (with_reducible first | exact HB.out | apply below_alloc | apply pw_below_drewN | apply below_drew1) | exact HB.out))) : w.heap.size ≤ gb285)); have n3_ := Aside0.mk ((by rw [hg]; exact (below_size (by repeat (first | (with_reducible first | exact HB.out | apply below_alloc | apply pw_below_drewN | apply below_drew1) | exact HB.out))) : w.heap.size ≤ gb285)); clear HB; have HB := n0_; have BK285 := n1_; have GW285 := n2_; have GE285 := n3_; clear n0_ n1_ n2_ n3_; clear hb hbox hg))
    go_ret
    exact ⟨by first | rfl | (simp only [Int.mul_zero, show wrap64 0 = 0 from by unfold wrap64; omega]; rfl) | (simp [errW_none, errW_some] <;> rfl) | (simp [*, errW_none, errW_some] <;> rfl), by repeat (first | (with_reducible first | exact HB.out | apply below_alloc | apply pw_below_drewN | apply below_drew1 | refine below_set ?_ GE285.out) | exact HB.out)⟩
  · rw [if_neg c5] at H
    have c5b0 : decide (1048576 < (l0.length : Int)) = false := decide_eq_false c5
    have c5b1 : decide (1048576 < l0.length) = false := decide_eq_false (by omega)
    clear c5
    replace H := Option.bind_eq_some_iff.mp H
    obtain ⟨t286, A70, H⟩ := H
    replace H : (if t286 < 0 then (some true) else ((laws_toIntS.f k l0).bind fun t287 => ((laws_toCalendar.f k l1_0 l1_1).bind fun bt290 => ((spec_MakeSchedule.f k t287 bt290.1 bt290.2 a2 a3).bind fun bt296 => ((laws_toIntS.f k l0).bind fun t300 => ((laws_toCalendar.f k l1_0 l1_1).bind fun bt303 => ((impl_MakeSchedule.f k t300 bt303.1 bt303.2 a2 a3).bind fun bt310 => ((laws_eqPeriodS.f k bt310.1 bt296.1).bind fun t314 => (if t314 = true then (laws_FnExactMakeSchedule.j0 k l0 a2 a3 bt296.1 bt296.2 t300 bt310.1 bt310.2 (bt310.2 != bt296.2) l1_0 l1_1 bt303.1 bt303.2) else (laws_FnExactMakeSchedule.j0 k l0 a2 a3 bt296.1 bt296.2 t300 bt310.1 bt310.2 true l1_0 l1_1 bt303.1 bt303.2)))))))))) = some r := H
    have A7 := Aside0.mk A70
    clear A70
    by_cases c8 : t286 < 0
    · rw [if_pos c8] at H
      have c8b0 : decide (t286 < 0) = true := decide_eq_true c8
      clear c8
      obtain rfl := Option.some.inj H
      go_enter Try.func9, Try.ntmps9
      go_wp2_with (first | ((with_reducible refine gate_dst (N := 5) rfl ?_); refine box_event ?hg (N := 5) ?hd (cs := #[.slice A1_0 l1_0.length c1_0, .slice A1_1 l1_1.length c1_1]) (t := 45) ?hr ?_; (case hd => rfl); (case hg => rfl); (case hr => first | (go_simp; done) | (go_simp; rfl)); intro gb285 hg w9 hbox hb; have n0_ := Aside0.mk (below_step (by repeat (first | (with_reducible first | exact HB.out | apply below_alloc | apply pw_below_drewN | apply below_drew1) | exact HB.out)) hb); have n1_ := Aside0.mk (hbox); have n2_ := Aside0.mk ((by rw [hg]; exact (below_size (by repeat (first | (with_reducible first | exact HB.out | apply below_alloc | apply pw_below_drewN | apply below_drew1) | exact HB.out))) : w.heap.size ≤ gb285)); have n3_ := Aside0.mk ((by rw [hg]; exact (below_size (by repeat (first | (with_reducible first | exact HB.out | apply below_alloc | apply pw_below_drewN | apply below_drew1) | exact HB.out))) : w.heap.size ≤ gb285)); clear HB; have HB := n0_; have BK285 := n1_; have GW285 := n2_; have GE285 := n3_; clear n0_ n1_ n2_ n3_; clear hb hbox hg; have hcz10_0 : w9.cell? ⟨gb285, 0, none⟩ = some (.slice A1_0 l1_0.length c1_0) := (blk_cell BK285.out 0).trans rfl; have hcz10_1 : w9.cell? ⟨gb285, 1, none⟩ = some (.slice A1_1 l1_1.length c1_1) := (blk_cell BK285.out 1).trans rfl; have hfz10_0 := blk_frozen BK285.out 0; have hfz10_1 := blk_frozen BK285.out 1) | ((with_reducible refine gate_callee (f := 35) rfl ?_); refine goesL_ (some 26) rfl rfl Try.func35 (by kernel_rfl) rfl #[.agg #[.slice A1_0 l1_0.length c1_0, .slice A1_1 l1_1.length c1_1], .int .i64 1048576] rfl (by (try simp only [List.map_toArray, List.map_cons, List.map_nil]); first | done | rfl | (simp only [List.length_drop, List.length_take]; rfl)) ?_; (with_reducible refine (laws_szCalendar.calls _ _ l1_0 _ _ l1_1 1048576 t286 _ ?side1 ?side2 ?side3 ?side4 A7.out).mono ?_); (case side1 => repeat (first | exact (Kd.C_below HR1_0.out HB.out) | (with_reducible refine Kd.C_alloc ?_ _) | (with_reducible refine Kd.C_drewN ?_ _) | (with_reducible refine Kd.C_drew ?_))); (case side2 => exact HC1_0.out); (case side3 => repeat (first | exact (Kd.C_below HR1_1.out HB.out) | (with_reducible refine Kd.C_alloc ?_ _) | (with_reducible refine Kd.C_drewN ?_ _) | (with_reducible refine Kd.C_drew ?_))); (case side4 => exact HC1_1.out); rintro e w11 ⟨rfl, hb⟩; refine ⟨_, rfl, ?_⟩; have n0_ := Aside0.mk (blk_below (g := gb285) (o := .cells #[.slice A1_0 l1_0.length c1_0, .slice A1_1 l1_1.length c1_1] 45 (0, 0)) (by (with_reducible repeat (first | refine blk_drewN ?_ _ | refine blk_drew ?_ | refine blk_alloc ?_ _)); exact BK285.out) hb); have n1_ := Aside0.mk (below_step (by repeat (first | (with_reducible first | exact HB.out | apply below_alloc | apply pw_below_drewN | apply below_drew1 | refine below_set ?_ GE285.out) | exact HB.out)) hb); clear BK285; clear HB; have BK285 := n0_; have HB := n1_; clear n0_ n1_; (try clear hb); (try clear hb2); (try clear hk); (try clear hi)))
      go_ret
      exact ⟨by first | rfl | (simp only [Int.mul_zero, show wrap64 0 = 0 from by unfold wrap64; omega]; rfl) | (simp [errW_none, errW_some] <;> rfl) | (simp [*, errW_none, errW_some] <;> rfl), by repeat (first | (with_reducible first | exact HB.out | apply below_alloc | apply pw_below_drewN | apply below_drew1 | refine below_set ?_ GE285.out) | exact HB.out)⟩
    · rw [if_neg c8] at H
      have c8b0 : decide (t286 < 0) = false := decide_eq_false c8
      clear c8
      replace H := Option.bind_eq_some_iff.mp H
      obtain ⟨t287, A120, H⟩ := H
      replace H : ((laws_toCalendar.f k l1_0 l1_1).bind fun bt290 => ((spec_MakeSchedule.f k t287 bt290.1 bt290.2 a2 a3).bind fun bt296 => ((laws_toIntS.f k l0).bind fun t300 => ((laws_toCalendar.f k l1_0 l1_1).bind fun bt303 => ((impl_MakeSchedule.f k t300 bt303.1 bt303.2 a2 a3).bind fun bt310 => ((laws_eqPeriodS.f k bt310.1 bt296.1).bind fun t314 => (if t314 = true then (laws_FnExactMakeSchedule.j0 k l0 a2 a3 bt296.1 bt296.2 t300 bt310.1 bt310.2 (bt310.2 != bt296.2) l1_0 l1_1 bt303.1 bt303.2) else (laws_FnExactMakeSchedule.j0 k l0 a2 a3 bt296.1 bt296.2 t300 bt310.1 bt310.2 true l1_0 l1_1 bt303.1 bt303.2)))))))) = some r := H
      have A12 := Aside0.mk A120
      clear A120
      replace H := Option.bind_eq_some_iff.mp H
      obtain ⟨⟨t290, t293⟩, A130, H⟩ := H
      replace H : ((spec_MakeSchedule.f k t287 t290 t293 a2 a3).bind fun bt296 => ((laws_toIntS.f k l0).bind fun t300 => ((laws_toCalendar.f k l1_0 l1_1).bind fun bt303 => ((impl_MakeSchedule.f k t300 bt303.1 bt303.2 a2 a3).bind fun bt310 => ((laws_eqPeriodS.f k bt310.1 bt296.1).bind fun t314 => (if t314 = true then (laws_FnExactMakeSchedule.j0 k l0 a2 a3 bt296.1 bt296.2 t300 bt310.1 bt310.2 (bt310.2 != bt296.2) l1_0 l1_1 bt303.1 bt303.2) else (laws_FnExactMakeSchedule.j0 k l0 a2 a3 bt296.1 bt296.2 t300 bt310.1 bt310.2 true l1_0 l1_1 bt303.1 bt303.2))))))) = some r := H
      have A13 := Aside0.mk A130
      clear A130
      replace H := Option.bind_eq_some_iff.mp H
      obtain ⟨⟨t296, t299⟩, A140, H⟩ := H
      replace H : ((laws_toIntS.f k l0).bind fun t300 => ((laws_toCalendar.f k l1_0 l1_1).bind fun bt303 => ((impl_MakeSchedule.f k t300 bt303.1 bt303.2 a2 a3).bind fun bt310 => ((laws_eqPeriodS.f k bt310.1 t296).bind fun t314 => (if t314 = true then (laws_FnExactMakeSchedule.j0 k l0 a2 a3 t296 t299 t300 bt310.1 bt310.2 (bt310.2 != t299) l1_0 l1_1 bt303.1 bt303.2) else (laws_FnExactMakeSchedule.j0 k l0 a2 a3 t296 t299 t300 bt310.1 bt310.2 true l1_0 l1_1 bt303.1 bt303.2)))))) = some r := H
      have A14 := Aside0.mk A140
      clear A140
      replace H := Option.bind_eq_some_iff.mp H
      obtain ⟨t300, A150, H⟩ := H
      replace H : ((laws_toCalendar.f k l1_0 l1_1).bind fun bt303 => ((impl_MakeSchedule.f k t300 bt303.1 bt303.2 a2 a3).bind fun bt310 => ((laws_eqPeriodS.f k bt310.1 t296).bind fun t314 => (if t314 = true then (laws_FnExactMakeSchedule.j0 k l0 a2 a3 t296 t299 t300 bt310.1 bt310.2 (bt310.2 != t299) l1_0 l1_1 bt303.1 bt303.2) else (laws_FnExactMakeSchedule.j0 k l0 a2 a3 t296 t299 t300 bt310.1 bt310.2 true l1_0 l1_1 bt303.1 bt303.2))))) = some r := H
      have A15 := Aside0.mk A150
      clear A150
      replace H := Option.bind_eq_some_iff.mp H
      obtain ⟨⟨t303, t306⟩, A160, H⟩ := H
      replace H : ((impl_MakeSchedule.f k t300 t303 t306 a2 a3).bind fun bt310 => ((laws_eqPeriodS.f k bt310.1 t296).bind fun t314 => (if t314 = true then (laws_FnExactMakeSchedule.j0 k l0 a2 a3 t296 t299 t300 bt310.1 bt310.2 (bt310.2 != t299) l1_0 l1_1 t303 t306) else (laws_FnExactMakeSchedule.j0 k l0 a2 a3 t296 t299 t300 bt310.1 bt310.2 true l1_0 l1_1 t303 t306)))) = some r := H
      have A16 := Aside0.mk A160
      clear A160
      replace H := Option.bind_eq_some_iff.mp H
      obtain ⟨⟨t310, t313⟩, A170, H⟩ := H
      replace H : ((laws_eqPeriodS.f k t310 t296).bind fun t314 => (if t314 = true then (laws_FnExactMakeSchedule.j0 k l0 a2 a3 t296 t299 t300 t310 t313 (t313 != t299) l1_0 l1_1 t303 t306) else (laws_FnExactMakeSchedule.j0 k l0 a2 a3 t296 t299 t300 t310 t313 true l1_0 l1_1 t303 t306))) = some r := H
      have A17 := Aside0.mk A170
      clear A170
      have HC18 := Aside0.mk H
      clear H
      go_enter Try.func9, Try.ntmps9
      try go_wp2_with (first | ((with_reducible refine gate_dst (N := 5) rfl ?_); refine box_event ?hg (N := 5) ?hd (cs := #[.slice A1_0 l1_0.length c1_0, .slice A1_1 l1_1.length c1_1]) (t := 45) ?hr ?_; (case hd => rfl); (case hg => rfl); (case hr => first | (go_simp; done) | (go_simp; rfl)); intro gb285 hg w19 hbox hb; have n0_ := Aside0.mk (below_step (by repeat (first | (with_reducible first | exact HB.out | apply below_alloc | apply pw_below_drewN | apply below_drew1) | exact HB.out)) hb); have n1_ := Aside0.mk (hbox); have n2_ := Aside0.mk ((by rw [hg]; exact (below_size (by repeat (first | (with_reducible first | exact HB.out | apply below_alloc | apply pw_below_drewN | apply below_drew1) | exact HB.out))) : w.heap.size ≤ gb285)); have n3_ := Aside0.mk ((by rw [hg]; exact (below_size (by repeat (first | (with_reducible first | exact HB.out | apply below_alloc | apply pw_below_drewN | apply below_drew1) | exact HB.out))) : w.heap.size ≤ gb285)); clear HB; have HB := n0_; have BK285 := n1_; have GW285 := n2_; have GE285 := n3_; clear n0_ n1_ n2_ n3_; clear hb hbox hg; have hcz20_0 : w19.cell? ⟨gb285, 0, none⟩ = some (.slice A1_0 l1_0.length c1_0) := (blk_cell BK285.out 0).trans rfl; have hcz20_1 : w19.cell? ⟨gb285, 1, none⟩ = some (.slice A1_1 l1_1.length c1_1) := (blk_cell BK285.out 1).trans rfl; have hfz20_0 := blk_frozen BK285.out 0; have hfz20_1 := blk_frozen BK285.out 1) | ((with_reducible refine gate_callee (f := 35) rfl ?_); refine goesL_ (some 26) rfl rfl Try.func35 (by kernel_rfl) rfl #[.agg #[.slice A1_0 l1_0.length c1_0, .slice A1_1 l1_1.length c1_1], .int .i64 1048576] rfl (by (try simp only [List.map_toArray, List.map_cons, List.map_nil]); first | done | rfl | (simp only [List.length_drop, List.length_take]; rfl)) ?_; (with_reducible refine (laws_szCalendar.calls _ _ l1_0 _ _ l1_1 1048576 t286 _ ?side1 ?side2 ?side3 ?side4 A7.out).mono ?_); (case side1 => repeat (first | exact (Kd.C_below HR1_0.out HB.out) | (with_reducible refine Kd.C_alloc ?_ _) | (with_reducible refine Kd.C_drewN ?_ _) | (with_reducible refine Kd.C_drew ?_))); (case side2 => exact HC1_0.out); (case side3 => repeat (first | exact (Kd.C_below HR1_1.out HB.out) | (with_reducible refine Kd.C_alloc ?_ _) | (with_reducible refine Kd.C_drewN ?_ _) | (with_reducible refine Kd.C_drew ?_))); (case side4 => exact HC1_1.out); rintro e w21 ⟨rfl, hb⟩; refine ⟨_, rfl, ?_⟩; have n0_ := Aside0.mk (blk_below (g := gb285) (o := .cells #[.slice A1_0 l1_0.length c1_0, .slice A1_1 l1_1.length c1_1] 45 (0, 0)) (by (with_reducible repeat (first | refine blk_drewN ?_ _ | refine blk_drew ?_ | refine blk_alloc ?_ _)); exact BK285.out) hb); have n1_ := Aside0.mk (below_step (by repeat (first | (with_reducible first | exact HB.out | apply below_alloc | apply pw_below_drewN | apply below_drew1 | refine below_set ?_ GE285.out) | exact HB.out)) hb); clear BK285; clear HB; have BK285 := n0_; have HB := n1_; clear n0_ n1_; (try clear hb); (try clear hb2); (try clear hk); (try clear hi)))
      have n0_ := Aside0.mk (blk_drew BK285.out)
      have n1_ := Aside0.mk (below_drew1 HB.out)
      clear BK285
      clear HB
      have BK285 := n0_
      have HB := n1_
      clear n0_ n1_
      refine start_ (n := 12) (S := fun w' => w'.cell? ⟨gb285, 0, none⟩ = some (.slice A1_0 l1_0.length c1_0) ∧ w'.cell? ⟨gb285, 1, none⟩ = some (.slice A1_1 l1_1.length c1_1)) (ds := []) #[false, false, false, false, false, false, false, false, false, false, false, false] (by kernel_rfl) rfl rfl ⟨(blk_cell BK285.out 0).trans rfl, (blk_cell BK285.out 1).trans rfl⟩ (fun hHeld => ?_); refine with_tabW laws_FnExactMakeSchedule.tab7 laws_FnExactMakeSchedule.bits7 (fun HT_ HW_ => ?_)
      generalize w21.drew = w22 at BK285 HB hHeld ⊢
      refine pure_ (i := 0) (N := some 30) (v := ?_) (a' := ?_) #[true, false, false, false, false, false, false, false, false, false, false, false] rfl rfl (any_of HT_.out (by kernel_rfl)) (fun _ _ _ h => h) (Or.inl ⟨by rfl, ?_⟩) ?_ ?_
      rotate_left
      · intro w'
        go_simp
        with_reducible rfl
      rotate_left
      · simp only [Act.put, List.setIfInBounds_toArray, List.set_cons_zero, List.set_cons_succ, i64_w, i32_w]
        rfl
      refine pure_ (i := 4) (N := some 34) (v := ?_) (a' := ?_) #[true, false, false, false, true, false, false, false, false, false, false, false] rfl rfl (any_of HT_.out (by kernel_rfl)) (fun _ _ _ h => h) (Or.inl ⟨by rfl, ?_⟩) ?_ ?_
      rotate_left
      · intro w'
        go_simp
        with_reducible rfl
      rotate_left
      · simp only [Act.put, List.setIfInBounds_toArray, List.set_cons_zero, List.set_cons_succ, i64_w, i32_w]
        rfl
      refine pure_ (i := 5) (N := some 35) (v := ?_) (a' := ?_) #[true, false, false, false, true, true, false, false, false, false, false, false] rfl rfl (any_of HT_.out (by kernel_rfl)) (fun _ _ _ h => h) (Or.inl ⟨by rfl, ?_⟩) ?_ ?_
      rotate_left
      · intro w'
        go_simp
        with_reducible rfl
      rotate_left
      · simp only [Act.put, List.setIfInBounds_toArray, List.set_cons_zero, List.set_cons_succ, i64_w, i32_w]
        rfl
      refine take_ (i := 2) (N := some 32) (v := ?_) (a' := ?_) #[true, false, true, false, true, true, false, false, false, false, false, false] rfl rfl (take_ofW HT_.out HW_.out (by kernel_rfl)) (fun _ _ _ h => h) (Or.inl ⟨by rfl, ?_⟩) hHeld ?_ ?_
      rotate_left
      · rintro w' ⟨s0, s1⟩
        go_simp
        with_reducible rfl
      rotate_left
      · simp only [Act.put, List.setIfInBounds_toArray, List.set_cons_zero, List.set_cons_succ, i64_w, i32_w]
        rfl
      refine one_ (i := 1) (N := some 31) #[true, true, true, false, true, true, false, false, false, false, false, false] rfl rfl (one_of HT_.out (by kernel_rfl)) (by decide) (fun K hK => ?_)
      refine goes_ Try.func22 (by kernel_rfl) rfl #[.slice A0 l0.length c0] (by rfl) rfl rfl (by (try simp only [List.map_toArray, List.map_cons, List.map_nil]); first | done | rfl | (simp only [List.length_drop, List.length_take]; rfl)) ?_
      with_reducible refine (laws_toIntS.calls k _ _ l0 t287 _ ?side1 ?side2 A12.out).mono ?_
      (case side1 => repeat (first | exact (Kd.C_below HR0.out HB.out) | (with_reducible refine Kd.C_alloc ?_ _) | (with_reducible refine Kd.C_drewN ?_ _) | (with_reducible refine Kd.C_drew ?_)))
      (case side2 => exact HC0.out)
      rintro e w23 ⟨v288, rfl, ho0, hb⟩
      refine ⟨_, rfl, ?_⟩
      have n0_ := Aside0.mk (Kd.R_lower ho0 (below_size (by repeat (first | (with_reducible first | exact HB.out | apply below_alloc | apply pw_below_drewN | apply below_drew1 | refine below_set ?_ GE285.out) | exact HB.out))))
      have n1_ := Aside0.mk (blk_below (g := gb285) (o := .cells #[.slice A1_0 l1_0.length c1_0, .slice A1_1 l1_1.length c1_1] 45 (0, 0)) (by (with_reducible repeat (first | refine blk_drewN ?_ _ | refine blk_drew ?_ | refine blk_alloc ?_ _)); exact BK285.out) hb)
      have n2_ := Aside0.mk (below_step (by repeat (first | (with_reducible first | exact HB.out | apply below_alloc | apply pw_below_drewN | apply below_drew1 | refine below_set ?_ GE285.out) | exact HB.out)) hb)
      clear BK285
      clear HB
      have HO289 := n0_
      have BK285 := n1_
      have HB := n2_
      clear n0_ n1_ n2_
      (try clear hb)
      (try clear hb2)
      (try clear hk)
      (try clear hi)
      (try clear ho0)
      refine hK.out _ _ ⟨(blk_cell BK285.out 0).trans rfl, (blk_cell BK285.out 1).trans rfl⟩ (fun hHeld => ?_)
      clear hK K
      refine norm_ (a' := ?_) ?_ ?_
      rotate_left
      · show Act.put _ (some 31) _ = _
        simp only [Act.put, List.setIfInBounds_toArray, List.set_cons_zero, List.set_cons_succ, i64_w, i32_w]
        rfl
      refine one_ (i := 3) (N := some 33) #[true, true, true, true, true, true, false, false, false, false, false, false] rfl rfl (one_of HT_.out (by kernel_rfl)) (by decide) (fun K hK => ?_)
      refine goes_ Try.func37 (by kernel_rfl) rfl #[.agg #[.slice A1_0 l1_0.length c1_0, .slice A1_1 l1_1.length c1_1]] (by rfl) rfl rfl (by (try simp only [List.map_toArray, List.map_cons, List.map_nil]); first | done | rfl | (simp only [List.length_drop, List.length_take]; rfl)) ?_
      with_reducible refine (laws_toCalendar.calls k _ _ l1_0 _ _ l1_1 t290 t293 _ ?side1 ?side2 ?side3 ?side4 A13.out).mono ?_
      (case side1 => repeat (first | exact (Kd.C_below HR1_0.out HB.out) | (with_reducible refine Kd.C_alloc ?_ _) | (with_reducible refine Kd.C_drewN ?_ _) | (with_reducible refine Kd.C_drew ?_)))
      (case side2 => exact HC1_0.out)
      (case side3 => repeat (first | exact (Kd.C_below HR1_1.out HB.out) | (with_reducible refine Kd.C_alloc ?_ _) | (with_reducible refine Kd.C_drewN ?_ _) | (with_reducible refine Kd.C_drew ?_)))
      (case side4 => exact HC1_1.out)
      rintro e w24 ⟨v291, v294, rfl, ho0, ho1, hb⟩
      refine ⟨_, rfl, ?_⟩
      have n0_ := Aside0.mk (Kd.R_mono (Kd.R_told (Kd.R_told (Kd.R_old (by (with_reducible repeat (first | apply Kd.R_alloc | apply Kd.R_drewN | apply Kd.R_drew)); exact HO289.out) hb) (Kd.R_base ho0)) (Kd.R_base ho1)) (fun _ h_ => h_.1))
      have n1_ := Aside0.mk (Kd.R_lower (Kd.R_new' ho0 (Kd.R_lt (by (with_reducible repeat (first | apply Kd.R_alloc | apply Kd.R_drewN | apply Kd.R_drew)); exact HO289.out))) (below_size (by repeat (first | (with_reducible first | exact HB.out | apply below_alloc | apply pw_below_drewN | apply below_drew1 | refine below_set ?_ GE285.out) | exact HB.out))))
      have n2_ := Aside0.mk (Kd.R_lower (Kd.R_new' ho1 (Kd.R_lt (by (with_reducible repeat (first | apply Kd.R_alloc | apply Kd.R_drewN | apply Kd.R_drew)); exact HO289.out))) (below_size (by repeat (first | (with_reducible first | exact HB.out | apply below_alloc | apply pw_below_drewN | apply below_drew1 | refine below_set ?_ GE285.out) | exact HB.out))))
      have n3_ := Aside0.mk (blk_below (g := gb285) (o := .cells #[.slice A1_0 l1_0.length c1_0, .slice A1_1 l1_1.length c1_1] 45 (0, 0)) (by (with_reducible repeat (first | refine blk_drewN ?_ _ | refine blk_drew ?_ | refine blk_alloc ?_ _)); exact BK285.out) hb)
      have n4_ := Aside0.mk (below_step (by repeat (first | (with_reducible first | exact HB.out | apply below_alloc | apply pw_below_drewN | apply below_drew1 | refine below_set ?_ GE285.out) | exact HB.out)) hb)
      clear HO289
      clear BK285
      clear HB
      have HO289 := n0_
      have HO292 := n1_
      have HO295 := n2_
      have BK285 := n3_
      have HB := n4_
      clear n0_ n1_ n2_ n3_ n4_
      (try clear hb)
      (try clear hb2)
      (try clear hk)
      (try clear hi)
      (try clear ho0)
      (try clear ho1)
      obtain ⟨Ao25, co25, eo25⟩ := Kd.R_slice HO289.out
      (first | subst eo25 | (injection eo25 with f1_ f2_ f3_; have f4_ := f1_.symm; have f5_ := f3_.symm; clear f1_ f2_ f3_; subst f4_; subst f5_))
      obtain ⟨Ao26, co26, eo26⟩ := Kd.R_slice HO292.out
      (first | subst eo26 | (injection eo26 with f1_ f2_ f3_; have f4_ := f1_.symm; have f5_ := f3_.symm; clear f1_ f2_ f3_; subst f4_; subst f5_))
      obtain ⟨Ao27, co27, eo27⟩ := Kd.R_slice HO295.out
      (first | subst eo27 | (injection eo27 with f1_ f2_ f3_; have f4_ := f1_.symm; have f5_ := f3_.symm; clear f1_ f2_ f3_; subst f4_; subst f5_))
      refine hK.out _ _ ⟨(blk_cell BK285.out 0).trans rfl, (blk_cell BK285.out 1).trans rfl⟩ (fun hHeld => ?_)
      clear hK K
      refine norm_ (a' := ?_) ?_ ?_
      rotate_left
      · show Act.put _ (some 33) _ = _
        simp only [Act.put, List.setIfInBounds_toArray, List.set_cons_zero, List.set_cons_succ, i64_w, i32_w]
        rfl
      refine one_ (i := 6) (N := some 36) #[true, true, true, true, true, true, true, false, false, false, false, false] rfl rfl (one_of HT_.out (by kernel_rfl)) (by decide) (fun K hK => ?_)
      refine goes_ Try.func36 (by kernel_rfl) rfl #[.slice Ao25 t287.length co25, .agg #[.slice Ao26 t290.length co26, .slice Ao27 t293.length co27], .int .i64 a2, .int .i64 a3] (by rfl) rfl rfl (by (try simp only [List.map_toArray, List.map_cons, List.map_nil]); first | done | rfl | (simp only [List.length_drop, List.length_take]; rfl)) ?_
      with_reducible refine (spec_MakeSchedule.calls k _ _ t287 _ _ t290 _ _ t293 a2 a3 t296 t299 _ ?side1 ?side2 ?side3 ?side4 ?side5 ?side6 A14.out).mono ?_
      (case side1 => repeat (first | exact (Kd.R_reads' HO289.out).2.2 | (with_reducible refine Kd.C_alloc ?_ _) | (with_reducible refine Kd.C_drewN ?_ _) | (with_reducible refine Kd.C_drew ?_)))
      (case side2 => exact (Kd.R_reads' HO289.out).2.1)
      (case side3 => repeat (first | exact (Kd.R_reads' HO292.out).2.2 | (with_reducible refine Kd.C_alloc ?_ _) | (with_reducible refine Kd.C_drewN ?_ _) | (with_reducible refine Kd.C_drew ?_)))
      (case side4 => exact (Kd.R_reads' HO292.out).2.1)
      (case side5 => repeat (first | exact (Kd.R_reads' HO295.out).2.2 | (with_reducible refine Kd.C_alloc ?_ _) | (with_reducible refine Kd.C_drewN ?_ _) | (with_reducible refine Kd.C_drew ?_)))
      (case side6 => exact (Kd.R_reads' HO295.out).2.1)
      rintro e w28 ⟨v297, rfl, ho0, hb⟩
      refine ⟨_, rfl, ?_⟩
      have n0_ := Aside0.mk (Kd.R_below (by (with_reducible repeat (first | apply Kd.R_alloc | apply Kd.R_drewN | apply Kd.R_drew)); exact HO289.out) hb)
      have n1_ := Aside0.mk (Kd.R_below (by (with_reducible repeat (first | apply Kd.R_alloc | apply Kd.R_drewN | apply Kd.R_drew)); exact HO292.out) hb)
      have n2_ := Aside0.mk (Kd.R_below (by (with_reducible repeat (first | apply Kd.R_alloc | apply Kd.R_drewN | apply Kd.R_drew)); exact HO295.out) hb)
      have n3_ := Aside0.mk (Kd.R_lower ho0 (below_size (by repeat (first | (with_reducible first | exact HB.out | apply below_alloc | apply pw_below_drewN | apply below_drew1 | refine below_set ?_ GE285.out) | exact HB.out))))
      have n4_ := Aside0.mk (blk_below (g := gb285) (o := .cells #[.slice A1_0 l1_0.length c1_0, .slice A1_1 l1_1.length c1_1] 45 (0, 0)) (by (with_reducible repeat (first | refine blk_drewN ?_ _ | refine blk_drew ?_ | refine blk_alloc ?_ _)); exact BK285.out) hb)
      have n5_ := Aside0.mk (below_step (by repeat (first | (with_reducible first | exact HB.out | apply below_alloc | apply pw_below_drewN | apply below_drew1 | refine below_set ?_ GE285.out) | exact HB.out)) hb)
      clear HO289
      clear HO292
      clear HO295
      clear BK285
      clear HB
      have HO289 := n0_
      have HO292 := n1_
      have HO295 := n2_
      have HO298 := n3_
      have BK285 := n4_
      have HB := n5_
      clear n0_ n1_ n2_ n3_ n4_ n5_
      (try clear hb)
      (try clear hb2)
      (try clear hk)
      (try clear hi)
      (try clear ho0)
      refine hK.out _ _ ⟨(blk_cell BK285.out 0).trans rfl, (blk_cell BK285.out 1).trans rfl⟩ (fun hHeld => ?_)
      clear hK K
      refine norm_ (a' := ?_) ?_ ?_
      rotate_left
      · show Act.put _ (some 36) _ = _
        simp only [Act.put, List.setIfInBounds_toArray, List.set_cons_zero, List.set_cons_succ, i64_w, i32_w]
        rfl
      refine pure_ (i := 7) (N := some 29) (v := ?_) (a' := ?_) #[true, true, true, true, true, true, true, true, false, false, false, false] rfl rfl (any_of HT_.out (by kernel_rfl)) (fun _ _ _ h => h) (Or.inl ⟨by rfl, ?_⟩) ?_ ?_
      rotate_left
      · intro w'
        go_simp
        with_reducible rfl
      rotate_left
      · simp only [Act.put, List.setIfInBounds_toArray, List.set_cons_zero, List.set_cons_succ, i64_w, i32_w]
        rfl
      refine pure_ (i := 8) (N := some 37) (v := ?_) (a' := ?_) #[true, true, true, true, true, true, true, true, true, false, false, false] rfl rfl (any_of HT_.out (by kernel_rfl)) (fun _ _ _ h => h) (Or.inl ⟨by rfl, ?_⟩) ?_ ?_
      rotate_left
      · intro w'
        go_simp
        with_reducible rfl
      rotate_left
      · simp only [Act.put, List.setIfInBounds_toArray, List.set_cons_zero, List.set_cons_succ, i64_w, i32_w]
        rfl
      refine pure_ (i := 9) (N := some 38) (v := ?_) (a' := ?_) #[true, true, true, true, true, true, true, true, true, true, false, false] rfl rfl (any_of HT_.out (by kernel_rfl)) (fun _ _ _ h => h) (Or.inl ⟨by rfl, ?_⟩) ?_ ?_
      rotate_left
      · intro w'
        go_simp
        with_reducible rfl
      rotate_left
      · simp only [Act.put, List.setIfInBounds_toArray, List.set_cons_zero, List.set_cons_succ, i64_w, i32_w]
        rfl
      refine pure_ (i := 10) (N := some 10) (v := ?_) (a' := ?_) #[true, true, true, true, true, true, true, true, true, true, true, false] rfl rfl (any_of HT_.out (by kernel_rfl)) (fun _ _ _ h => h) (Or.inl ⟨by rfl, ?_⟩) ?_ ?_
      rotate_left
      · intro w'
        go_simp
        with_reducible rfl
      rotate_left
      · simp only [Act.put, List.setIfInBounds_toArray, List.set_cons_zero, List.set_cons_succ, i64_w, i32_w]
        rfl
      refine pure_ (i := 11) (N := some 11) (v := ?_) (a' := ?_) #[true, true, true, true, true, true, true, true, true, true, true, true] rfl rfl (any_of HT_.out (by kernel_rfl)) (fun _ _ _ h => h) (Or.inl ⟨by rfl, ?_⟩) ?_ ?_
      rotate_left
      · intro w'
        go_simp
        with_reducible rfl
      rotate_left
      · simp only [Act.put, List.setIfInBounds_toArray, List.set_cons_zero, List.set_cons_succ, i64_w, i32_w]
        rfl
      refine done_ (done_of HT_.out (by kernel_rfl)) ?_
      go_upto_region 11 with (first | ((with_reducible refine gate_callee (f := 22) rfl ?_); refine goesL_ (some 40) rfl rfl Try.func22 (by kernel_rfl) rfl #[.slice A0 l0.length c0] rfl (by (try simp only [List.map_toArray, List.map_cons, List.map_nil]); first | done | rfl | (simp only [List.length_drop, List.length_take]; rfl)) ?_; (with_reducible refine (laws_toIntS.calls k _ _ l0 t300 _ ?side1 ?side2 A15.out).mono ?_); (case side1 => repeat (first | exact (Kd.C_below HR0.out HB.out) | (with_reducible refine Kd.C_alloc ?_ _) | (with_reducible refine Kd.C_drewN ?_ _) | (with_reducible refine Kd.C_drew ?_))); (case side2 => exact HC0.out); rintro e w29 ⟨v301, rfl, ho0, hb⟩; refine ⟨_, rfl, ?_⟩; have n0_ := Aside0.mk (Kd.R_elder' (by (with_reducible repeat (first | apply Kd.R_alloc | apply Kd.R_drewN | apply Kd.R_drew)); exact HO289.out) (Kd.R_base ho0) hb); have n1_ := Aside0.mk (Kd.R_elder' (by (with_reducible repeat (first | apply Kd.R_alloc | apply Kd.R_drewN | apply Kd.R_drew)); exact HO292.out) (Kd.R_base ho0) hb); have n2_ := Aside0.mk (Kd.R_elder' (by (with_reducible repeat (first | apply Kd.R_alloc | apply Kd.R_drewN | apply Kd.R_drew)); exact HO295.out) (Kd.R_base ho0) hb); have n3_ := Aside0.mk (Kd.R_below (by (with_reducible repeat (first | apply Kd.R_alloc | apply Kd.R_drewN | apply Kd.R_drew)); exact HO298.out) hb); have n4_ := Aside0.mk (Kd.R_lower (Kd.R_new' (Kd.R_new' (Kd.R_new' ho0 (Kd.R_lt (by (with_reducible repeat (first | apply Kd.R_alloc | apply Kd.R_drewN | apply Kd.R_drew)); exact HO289.out))) (Kd.R_lt (by (with_reducible repeat (first | apply Kd.R_alloc | apply Kd.R_drewN | apply Kd.R_drew)); exact HO292.out))) (Kd.R_lt (by (with_reducible repeat (first | apply Kd.R_alloc | apply Kd.R_drewN | apply Kd.R_drew)); exact HO295.out))) (below_size (by repeat (first | (with_reducible first | exact HB.out | apply below_alloc | apply pw_below_drewN | apply below_drew1 | refine below_set ?_ GE285.out) | exact HB.out)))); have n5_ := Aside0.mk (blk_below (g := gb285) (o := .cells #[.slice A1_0 l1_0.length c1_0, .slice A1_1 l1_1.length c1_1] 45 (0, 0)) (by (with_reducible repeat (first | refine blk_drewN ?_ _ | refine blk_drew ?_ | refine blk_alloc ?_ _)); exact BK285.out) hb); have n6_ := Aside0.mk (below_step (by repeat (first | (with_reducible first | exact HB.out | apply below_alloc | apply pw_below_drewN | apply below_drew1 | refine below_set ?_ GE285.out) | exact HB.out)) hb); clear HO289; clear HO292; clear HO295; clear HO298; clear BK285; clear HB; have HO289 := n0_; have HO292 := n1_; have HO295 := n2_; have HO298 := n3_; have HO302 := n4_; have BK285 := n5_; have HB := n6_; clear n0_ n1_ n2_ n3_ n4_ n5_ n6_; (try clear hb); (try clear hb2); (try clear hk); (try clear hi); (try clear ho0); have hcz30_0 : w29.cell? ⟨gb285, 0, none⟩ = some (.slice A1_0 l1_0.length c1_0) := (blk_cell BK285.out 0).trans rfl; have hcz30_1 : w29.cell? ⟨gb285, 1, none⟩ = some (.slice A1_1 l1_1.length c1_1) := (blk_cell BK285.out 1).trans rfl; have hfz30_0 := blk_frozen BK285.out 0; have hfz30_1 := blk_frozen BK285.out 1) | ((with_reducible refine gate_callee (f := 37) rfl ?_); refine goesL_ (some 42) rfl rfl Try.func37 (by kernel_rfl) rfl #[.agg #[.slice A1_0 l1_0.length c1_0, .slice A1_1 l1_1.length c1_1]] rfl (by (try simp only [List.map_toArray, List.map_cons, List.map_nil]); first | done | rfl | (simp only [List.length_drop, List.length_take]; rfl)) ?_; (with_reducible refine (laws_toCalendar.calls k _ _ l1_0 _ _ l1_1 t303 t306 _ ?side1 ?side2 ?side3 ?side4 A16.out).mono ?_); (case side1 => repeat (first | exact (Kd.C_below HR1_0.out HB.out) | (with_reducible refine Kd.C_alloc ?_ _) | (with_reducible refine Kd.C_drewN ?_ _) | (with_reducible refine Kd.C_drew ?_))); (case side2 => exact HC1_0.out); (case side3 => repeat (first | exact (Kd.C_below HR1_1.out HB.out) | (with_reducible refine Kd.C_alloc ?_ _) | (with_reducible refine Kd.C_drewN ?_ _) | (with_reducible refine Kd.C_drew ?_))); (case side4 => exact HC1_1.out); rintro e w31 ⟨v304, v307, rfl, ho0, ho1, hb⟩; refine ⟨_, rfl, ?_⟩; have n0_ := Aside0.mk (Kd.R_mono (Kd.R_told (Kd.R_told (Kd.R_old (by (with_reducible repeat (first | apply Kd.R_alloc | apply Kd.R_drewN | apply Kd.R_drew)); exact HO289.out) hb) (Kd.R_base ho0)) (Kd.R_base ho1)) (fun _ h_ => h_.1)); have n1_ := Aside0.mk (Kd.R_mono (Kd.R_told (Kd.R_told (Kd.R_old (by (with_reducible repeat (first | apply Kd.R_alloc | apply Kd.R_drewN | apply Kd.R_drew)); exact HO292.out) hb) (Kd.R_base ho0)) (Kd.R_base ho1)) (fun _ h_ => h_.1)); have n2_ := Aside0.mk (Kd.R_mono (Kd.R_told (Kd.R_told (Kd.R_old (by (with_reducible repeat (first | apply Kd.R_alloc | apply Kd.R_drewN | apply Kd.R_drew)); exact HO295.out) hb) (Kd.R_base ho0)) (Kd.R_base ho1)) (fun _ h_ => h_.1)); have n3_ := Aside0.mk (Kd.R_below (by (with_reducible repeat (first | apply Kd.R_alloc | apply Kd.R_drewN | apply Kd.R_drew)); exact HO298.out) hb); have n4_ := Aside0.mk (Kd.R_mono (Kd.R_told (Kd.R_told (Kd.R_old (by (with_reducible repeat (first | apply Kd.R_alloc | apply Kd.R_drewN | apply Kd.R_drew)); exact HO302.out) hb) (Kd.R_base ho0)) (Kd.R_base ho1)) (fun _ h_ => h_.1)); have n5_ := Aside0.mk (Kd.R_lower (Kd.R_new' (Kd.R_new' (Kd.R_new' (Kd.R_new' ho0 (Kd.R_lt (by (with_reducible repeat (first | apply Kd.R_alloc | apply Kd.R_drewN | apply Kd.R_drew)); exact HO289.out))) (Kd.R_lt (by (with_reducible repeat (first | apply Kd.R_alloc | apply Kd.R_drewN | apply Kd.R_drew)); exact HO292.out))) (Kd.R_lt (by (with_reducible repeat (first | apply Kd.R_alloc | apply Kd.R_drewN | apply Kd.R_drew)); exact HO295.out))) (Kd.R_lt (by (with_reducible repeat (first | apply Kd.R_alloc | apply Kd.R_drewN | apply Kd.R_drew)); exact HO302.out))) (below_size (by repeat (first | (with_reducible first | exact HB.out | apply below_alloc | apply pw_below_drewN | apply below_drew1 | refine below_set ?_ GE285.out) | exact HB.out)))); have n6_ := Aside0.mk (Kd.R_lower (Kd.R_new' (Kd.R_new' (Kd.R_new' (Kd.R_new' ho1 (Kd.R_lt (by (with_reducible repeat (first | apply Kd.R_alloc | apply Kd.R_drewN | apply Kd.R_drew)); exact HO289.out))) (Kd.R_lt (by (with_reducible repeat (first | apply Kd.R_alloc | apply Kd.R_drewN | apply Kd.R_drew)); exact HO292.out))) (Kd.R_lt (by (with_reducible repeat (first | apply Kd.R_alloc | apply Kd.R_drewN | apply Kd.R_drew)); exact HO295.out))) (Kd.R_lt (by (with_reducible repeat (first | apply Kd.R_alloc | apply Kd.R_drewN | apply Kd.R_drew)); exact HO302.out))) (below_size (by repeat (first | (with_reducible first | exact HB.out | apply below_alloc | apply pw_below_drewN | apply below_drew1 | refine below_set ?_ GE285.out) | exact HB.out)))); have n7_ := Aside0.mk (blk_below (g := gb285) (o := .cells #[.slice A1_0 l1_0.length c1_0, .slice A1_1 l1_1.length c1_1] 45 (0, 0)) (by (with_reducible repeat (first | refine blk_drewN ?_ _ | refine blk_drew ?_ | refine blk_alloc ?_ _)); exact BK285.out) hb); have n8_ := Aside0.mk (below_step (by repeat (first | (with_reducible first | exact HB.out | apply below_alloc | apply pw_below_drewN | apply below_drew1 | refine below_set ?_ GE285.out) | exact HB.out)) hb); clear HO289; clear HO292; clear HO295; clear HO298; clear HO302; clear BK285; clear HB; have HO289 := n0_; have HO292 := n1_; have HO295 := n2_; have HO298 := n3_; have HO302 := n4_; have HO305 := n5_; have HO308 := n6_; have BK285 := n7_; have HB := n8_; clear n0_ n1_ n2_ n3_ n4_ n5_ n6_ n7_ n8_; (try clear hb); (try clear hb2); (try clear hk); (try clear hi); (try clear ho0); (try clear ho1)) | ((with_reducible refine gate_dst (N := 13) rfl ?_); refine box_event ?hg (N := 13) ?hd (cs := #[.slice none 0 0, .slice none 0 0]) (t := 48) ?hr ?_; (case hd => rfl); (case hg => rfl); (case hr => first | (go_simp; done) | (go_simp; rfl)); intro gb309 hg w32 hbox hb; have n0_ := Aside0.mk (Kd.R_below (by (with_reducible repeat (first | apply Kd.R_alloc | apply Kd.R_drewN | apply Kd.R_drew)); exact HO289.out) hb); have n1_ := Aside0.mk (Kd.R_below (by (with_reducible repeat (first | apply Kd.R_alloc | apply Kd.R_drewN | apply Kd.R_drew)); exact HO292.out) hb); have n2_ := Aside0.mk (Kd.R_below (by (with_reducible repeat (first | apply Kd.R_alloc | apply Kd.R_drewN | apply Kd.R_drew)); exact HO295.out) hb); have n3_ := Aside0.mk (Kd.R_below (by (with_reducible repeat (first | apply Kd.R_alloc | apply Kd.R_drewN | apply Kd.R_drew)); exact HO298.out) hb); have n4_ := Aside0.mk (Kd.R_below (by (with_reducible repeat (first | apply Kd.R_alloc | apply Kd.R_drewN | apply Kd.R_drew)); exact HO302.out) hb); have n5_ := Aside0.mk (Kd.R_below (by (with_reducible repeat (first | apply Kd.R_alloc | apply Kd.R_drewN | apply Kd.R_drew)); exact HO305.out) hb); have n6_ := Aside0.mk (Kd.R_below (by (with_reducible repeat (first | apply Kd.R_alloc | apply Kd.R_drewN | apply Kd.R_drew)); exact HO308.out) hb); have n7_ := Aside0.mk (blk_below (g := gb285) (o := .cells #[.slice A1_0 l1_0.length c1_0, .slice A1_1 l1_1.length c1_1] 45 (0, 0)) (by (with_reducible repeat (first | refine blk_drewN ?_ _ | refine blk_drew ?_ | refine blk_alloc ?_ _)); exact BK285.out) hb); have n8_ := Aside0.mk (below_step (by repeat (first | (with_reducible first | exact HB.out | apply below_alloc | apply pw_below_drewN | apply below_drew1 | refine below_set ?_ GE285.out) | exact HB.out)) hb); have n9_ := Aside0.mk (hbox); have n10_ := Aside0.mk ((by rw [hg]; exact (below_size (by repeat (first | (with_reducible first | exact HB.out | apply below_alloc | apply pw_below_drewN | apply below_drew1 | refine below_set ?_ GE285.out) | exact HB.out))) : w.heap.size ≤ gb309)); have n11_ := Aside0.mk ((by rw [hg]; exact (below_size (by repeat (first | (with_reducible first | exact HB.out | apply below_alloc | apply pw_below_drewN | apply below_drew1 | refine below_set ?_ GE285.out) | exact HB.out))) : w.heap.size ≤ gb309)); have n12_ := Aside0.mk ((by rw [hg]; exact Nat.ne_of_lt (blk_lt (g := gb285) (o := .cells #[.slice A1_0 l1_0.length c1_0, .slice A1_1 l1_1.length c1_1] 45 (0, 0)) (by (with_reducible repeat (first | refine blk_drewN ?_ _ | refine blk_drew ?_ | refine blk_alloc ?_ _)); exact BK285.out)) : gb285 ≠ gb309)); have n13_ := Aside0.mk ((by rw [hg]; exact Nat.ne_of_gt (blk_lt (g := gb285) (o := .cells #[.slice A1_0 l1_0.length c1_0, .slice A1_1 l1_1.length c1_1] 45 (0, 0)) (by (with_reducible repeat (first | refine blk_drewN ?_ _ | refine blk_drew ?_ | refine blk_alloc ?_ _)); exact BK285.out)) : gb309 ≠ gb285)); clear HO289; clear HO292; clear HO295; clear HO298; clear HO302; clear HO305; clear HO308; clear BK285; clear HB; have HO289 := n0_; have HO292 := n1_; have HO295 := n2_; have HO298 := n3_; have HO302 := n4_; have HO305 := n5_; have HO308 := n6_; have BK285 := n7_; have HB := n8_; have BK309 := n9_; have GW309 := n10_; have GE309 := n11_; have NB285_309 := n12_; have NB309_285 := n13_; clear n0_ n1_ n2_ n3_ n4_ n5_ n6_ n7_ n8_ n9_ n10_ n11_ n12_ n13_; clear hb hbox hg; obtain ⟨Ao33, co33, eo33⟩ := Kd.R_slice HO305.out; subst eo33; have hnb34 := NB309_285.out; have hnc34 := NB285_309.out; have hcz35_0 : w32.cell? ⟨gb309, 0, none⟩ = some (.slice none 0 0) := (blk_cell BK309.out 0).trans rfl; have hcz35_1 : w32.cell? ⟨gb309, 1, none⟩ = some (.slice none 0 0) := (blk_cell BK309.out 1).trans rfl; have hfz35_0 := blk_frozen BK309.out 0; have hfz35_1 := blk_frozen BK309.out 1; obtain ⟨Ao36, co36, eo36⟩ := Kd.R_slice HO308.out; subst eo36; obtain ⟨Ao37, co37, eo37⟩ := Kd.R_slice HO302.out; subst eo37) | ((with_reducible refine gate_callee (f := 38) rfl ?_); refine goesL_ (some 48) rfl rfl Try.func38 (by kernel_rfl) rfl #[.slice Ao37 t300.length co37, .agg #[.slice Ao33 t303.length co33, .slice Ao36 t306.length co36], .int .i64 a2, .int .i64 a3] rfl (by (try simp only [List.map_toArray, List.map_cons, List.map_nil]); first | done | rfl | (simp only [List.length_drop, List.length_take]; rfl)) ?_; (with_reducible refine (impl_MakeSchedule.calls k _ _ t300 _ _ t303 _ _ t306 a2 a3 t310 t313 _ ?side1 ?side2 ?side3 ?side4 ?side5 ?side6 A17.out).mono ?_); (case side1 => refine (Kd.R_reads' (e := 3) (base := w.heap.size) (ok := fun k_ => (((((True ∧ some k_ ≠ (.slice Ao25 t287.length co25 : Value).ownBlock) ∧ some k_ ≠ (.slice Ao26 t290.length co26 : Value).ownBlock) ∧ some k_ ≠ (.slice Ao27 t293.length co27 : Value).ownBlock) ∧ some k_ ≠ (.slice Ao33 t303.length co33 : Value).ownBlock) ∧ some k_ ≠ (.slice Ao36 t306.length co36 : Value).ownBlock)) (n := t300.length) (c := co37) ?_).2.2; exact (by (with_reducible repeat (first | apply Kd.R_alloc | apply Kd.R_drewN | apply Kd.R_drew)); exact (Kd.R_mono (Kd.R_far (p := ⟨gb309, 1, none⟩) (Kd.R_far (p := ⟨gb309, 0, none⟩) (Kd.R_types HO302.out BK309.out (by decide)) (fun _ hk => hk.2) (.slice Ao33 t303.length co33)) (fun _ hk => hk.2) (.slice Ao36 t306.length co36)) (fun _ h_ => h_.1)))); (case side2 => exact (Kd.R_reads' HO302.out).2.1); (case side3 => refine (Kd.R_reads' (e := 3) (base := w.heap.size) (ok := fun k_ => ((((some k_ ≠ (.slice Ao36 t306.length co36 : Value).ownBlock ∧ some k_ ≠ (.slice Ao25 t287.length co25 : Value).ownBlock) ∧ some k_ ≠ (.slice Ao26 t290.length co26 : Value).ownBlock) ∧ some k_ ≠ (.slice Ao27 t293.length co27 : Value).ownBlock) ∧ some k_ ≠ (.slice Ao37 t300.length co37 : Value).ownBlock)) (n := t303.length) (c := co33) ?_).2.2; exact (by (with_reducible repeat (first | apply Kd.R_alloc | apply Kd.R_drewN | apply Kd.R_drew)); exact (Kd.R_mono (Kd.R_far (p := ⟨gb309, 1, none⟩) (Kd.R_far (p := ⟨gb309, 0, none⟩) (Kd.R_types HO305.out BK309.out (by decide)) (fun _ hk => hk.2) (.slice Ao33 t303.length co33)) (fun _ hk => hk.2) (.slice Ao36 t306.length co36)) (fun _ h_ => h_.1)))); (case side4 => exact (Kd.R_reads' HO305.out).2.1); (case side5 => refine (Kd.R_reads' (e := 3) (base := w.heap.size) (ok := fun k_ => ((((some k_ ≠ (.slice Ao33 t303.length co33 : Value).ownBlock ∧ some k_ ≠ (.slice Ao25 t287.length co25 : Value).ownBlock) ∧ some k_ ≠ (.slice Ao26 t290.length co26 : Value).ownBlock) ∧ some k_ ≠ (.slice Ao27 t293.length co27 : Value).ownBlock) ∧ some k_ ≠ (.slice Ao37 t300.length co37 : Value).ownBlock)) (n := t306.length) (c := co36) ?_).2.2; exact (by (with_reducible repeat (first | apply Kd.R_alloc | apply Kd.R_drewN | apply Kd.R_drew)); exact (Kd.R_mono (Kd.R_far (p := ⟨gb309, 1, none⟩) (Kd.R_far (p := ⟨gb309, 0, none⟩) (Kd.R_types HO308.out BK309.out (by decide)) (fun _ hk => hk.2) (.slice Ao33 t303.length co33)) (fun _ hk => hk.2) (.slice Ao36 t306.length co36)) (fun _ h_ => h_.1)))); (case side6 => exact (Kd.R_reads' HO308.out).2.1); rintro e w38 ⟨v311, rfl, ho0, hb⟩; refine ⟨_, rfl, ?_⟩; have n0_ := Aside0.mk (Kd.R_below (by (with_reducible repeat (first | apply Kd.R_alloc | apply Kd.R_drewN | apply Kd.R_drew)); exact (Kd.R_mono (Kd.R_far (p := ⟨gb309, 1, none⟩) (Kd.R_far (p := ⟨gb309, 0, none⟩) (Kd.R_types HO289.out BK309.out (by decide)) (fun _ hk => hk.2) (.slice Ao33 t303.length co33)) (fun _ hk => hk.2) (.slice Ao36 t306.length co36)) (fun _ h_ => h_.1))) hb); have n1_ := Aside0.mk (Kd.R_below (by (with_reducible repeat (first | apply Kd.R_alloc | apply Kd.R_drewN | apply Kd.R_drew)); exact (Kd.R_mono (Kd.R_far (p := ⟨gb309, 1, none⟩) (Kd.R_far (p := ⟨gb309, 0, none⟩) (Kd.R_types HO292.out BK309.out (by decide)) (fun _ hk => hk.2) (.slice Ao33 t303.length co33)) (fun _ hk => hk.2) (.slice Ao36 t306.length co36)) (fun _ h_ => h_.1))) hb); have n2_ := Aside0.mk (Kd.R_below (by (with_reducible repeat (first | apply Kd.R_alloc | apply Kd.R_drewN | apply Kd.R_drew)); exact (Kd.R_mono (Kd.R_far (p := ⟨gb309, 1, none⟩) (Kd.R_far (p := ⟨gb309, 0, none⟩) (Kd.R_types HO295.out BK309.out (by decide)) (fun _ hk => hk.2) (.slice Ao33 t303.length co33)) (fun _ hk => hk.2) (.slice Ao36 t306.length co36)) (fun _ h_ => h_.1))) hb); have n3_ := Aside0.mk (Kd.R_elder' (by (with_reducible repeat (first | apply Kd.R_alloc | apply Kd.R_drewN | apply Kd.R_drew)); exact (Kd.R_mono (Kd.R_far (p := ⟨gb309, 1, none⟩) (Kd.R_far (p := ⟨gb309, 0, none⟩) (Kd.R_types HO298.out BK309.out (by decide)) (fun _ hk => hk.2) (.slice Ao33 t303.length co33)) (fun _ hk => hk.2) (.slice Ao36 t306.length co36)) (fun _ h_ => h_.1))) (Kd.R_base ho0) hb); have n4_ := Aside0.mk (Kd.R_below (by (with_reducible repeat (first | apply Kd.R_alloc | apply Kd.R_drewN | apply Kd.R_drew)); exact (Kd.R_mono (Kd.R_far (p := ⟨gb309, 1, none⟩) (Kd.R_far (p := ⟨gb309, 0, none⟩) (Kd.R_types HO302.out BK309.out (by decide)) (fun _ hk => hk.2) (.slice Ao33 t303.length co33)) (fun _ hk => hk.2) (.slice Ao36 t306.length co36)) (fun _ h_ => h_.1))) hb); have n5_ := Aside0.mk (Kd.R_below (by (with_reducible repeat (first | apply Kd.R_alloc | apply Kd.R_drewN | apply Kd.R_drew)); exact (Kd.R_mono (Kd.R_far (p := ⟨gb309, 1, none⟩) (Kd.R_far (p := ⟨gb309, 0, none⟩) (Kd.R_types HO305.out BK309.out (by decide)) (fun _ hk => hk.2) (.slice Ao33 t303.length co33)) (fun _ hk => hk.2) (.slice Ao36 t306.length co36)) (fun _ h_ => h_.1))) hb); have n6_ := Aside0.mk (Kd.R_below (by (with_reducible repeat (first | apply Kd.R_alloc | apply Kd.R_drewN | apply Kd.R_drew)); exact (Kd.R_mono (Kd.R_far (p := ⟨gb309, 1, none⟩) (Kd.R_far (p := ⟨gb309, 0, none⟩) (Kd.R_types HO308.out BK309.out (by decide)) (fun _ hk => hk.2) (.slice Ao33 t303.length co33)) (fun _ hk => hk.2) (.slice Ao36 t306.length co36)) (fun _ h_ => h_.1))) hb); have n7_ := Aside0.mk (Kd.R_lower (Kd.R_new' ho0 (Kd.R_lt (by (with_reducible repeat (first | apply Kd.R_alloc | apply Kd.R_drewN | apply Kd.R_drew)); exact (Kd.R_mono (Kd.R_far (p := ⟨gb309, 1, none⟩) (Kd.R_far (p := ⟨gb309, 0, none⟩) (Kd.R_types HO298.out BK309.out (by decide)) (fun _ hk => hk.2) (.slice Ao33 t303.length co33)) (fun _ hk => hk.2) (.slice Ao36 t306.length co36)) (fun _ h_ => h_.1))))) (below_size (by repeat (first | (with_reducible first | exact HB.out | apply below_alloc | apply pw_below_drewN | apply below_drew1 | refine below_set ?_ GE285.out | refine below_set ?_ GE309.out) | exact HB.out)))); have n8_ := Aside0.mk (blk_below (g := gb285) (o := .cells #[.slice A1_0 l1_0.length c1_0, .slice A1_1 l1_1.length c1_1] 45 (0, 0)) (by (with_reducible repeat (first | refine blk_drewN ?_ _ | refine blk_drew ?_ | refine blk_alloc ?_ _)); refine blk_far ?_ NB285_309.out _; (with_reducible repeat (first | refine blk_drewN ?_ _ | refine blk_drew ?_ | refine blk_alloc ?_ _)); refine blk_far ?_ NB285_309.out _; (with_reducible repeat (first | refine blk_drewN ?_ _ | refine blk_drew ?_ | refine blk_alloc ?_ _)); exact BK285.out) hb); have n9_ := Aside0.mk (blk_below (g := gb309) (o := .cells #[.slice Ao33 t303.length co33, .slice Ao36 t306.length co36] 48 (0, 0)) (by (with_reducible repeat (first | refine blk_drewN ?_ _ | refine blk_drew ?_ | refine blk_alloc ?_ _)); refine blk_put (cs := #[.slice Ao33 t303.length co33, .slice none 0 0]) ?_ 1 _ rfl; (with_reducible repeat (first | refine blk_drewN ?_ _ | refine blk_drew ?_ | refine blk_alloc ?_ _)); refine blk_put (cs := #[.slice none 0 0, .slice none 0 0]) ?_ 0 _ rfl; (with_reducible repeat (first | refine blk_drewN ?_ _ | refine blk_drew ?_ | refine blk_alloc ?_ _)); exact BK309.out) hb); have n10_ := Aside0.mk (below_step (by repeat (first | (with_reducible first | exact HB.out | apply below_alloc | apply pw_below_drewN | apply below_drew1 | refine below_set ?_ GE285.out | refine below_set ?_ GE309.out) | exact HB.out)) hb); clear HO289; clear HO292; clear HO295; clear HO298; clear HO302; clear HO305; clear HO308; clear BK285; clear BK309; clear HB; have HO289 := n0_; have HO292 := n1_; have HO295 := n2_; have HO298 := n3_; have HO302 := n4_; have HO305 := n5_; have HO308 := n6_; have HO312 := n7_; have BK285 := n8_; have BK309 := n9_; have HB := n10_; clear n0_ n1_ n2_ n3_ n4_ n5_ n6_ n7_ n8_ n9_ n10_; (try clear hb); (try clear hb2); (try clear hk); (try clear hi); (try clear ho0)))
      (try simp only [Act.put, List.setIfInBounds_toArray, List.set_cons_zero, List.set_cons_succ])
      go_cut [59] (fun v59 wc => ∃ (kq : Nat) (x59_17 : Bool), v59 = .bool x59_17 ∧ Aside0 (laws_FnExactMakeSchedule.j0 kq l0 a2 a3 t296 t299 t300 t310 t313 x59_17 l1_0 l1_1 t303 t306 = some r) ∧ Aside0 (kq ≤ k) ∧ Aside0 (Kd.R k60 60 wc w.heap.size (fun k_ => some k_ ≠ (v311 : Value).ownBlock) v297 t296) ∧ Aside0 (Kd.R (Kd.int .i64) 3 wc w.heap.size (fun k_ => some k_ ≠ ((.slice Ao33 t303.length co33) : Value).ownBlock ∧ some k_ ≠ ((.slice Ao36 t306.length co36) : Value).ownBlock) (.slice Ao37 t300.length co37) t300) ∧ Aside0 (Kd.R k60 60 wc w.heap.size (fun k_ => some k_ ≠ (v297 : Value).ownBlock) v311 t310) ∧ Aside0 (Kd.R (Kd.int .i64) 3 wc w.heap.size (fun k_ => some k_ ≠ ((.slice Ao37 t300.length co37) : Value).ownBlock ∧ some k_ ≠ ((.slice Ao36 t306.length co36) : Value).ownBlock) (.slice Ao33 t303.length co33) t303) ∧ Aside0 (Kd.R (Kd.int .i64) 3 wc w.heap.size (fun k_ => some k_ ≠ ((.slice Ao37 t300.length co37) : Value).ownBlock ∧ some k_ ≠ ((.slice Ao33 t303.length co33) : Value).ownBlock) (.slice Ao36 t306.length co36) t306) ∧ Aside0 (wc.heap[gb285]? = some (.cells #[(.slice A1_0 l1_0.length c1_0), (.slice A1_1 l1_1.length c1_1)] 45 (0, 0))) ∧ Aside0 (wc.heap[gb309]? = some (.cells #[(.slice Ao33 t303.length co33), (.slice Ao36 t306.length co36)] 48 (0, 0))) ∧ Aside0 (Below w.heap.size w wc))
      case first =>
        have H := HC18.out
        clear HC18
        replace H := Option.bind_eq_some_iff.mp H
        obtain ⟨t314, A390, H⟩ := H
        replace H : (if t314 = true then (laws_FnExactMakeSchedule.j0 k l0 a2 a3 t296 t299 t300 t310 t313 (t313 != t299) l1_0 l1_1 t303 t306) else (laws_FnExactMakeSchedule.j0 k l0 a2 a3 t296 t299 t300 t310 t313 true l1_0 l1_1 t303 t306)) = some r := H
        have A39 := Aside0.mk A390
        clear A390
        by_cases c40 : t314 = true
        · subst c40
          have H1 : (laws_FnExactMakeSchedule.j0 k l0 a2 a3 t296 t299 t300 t310 t313 (t313 != t299) l1_0 l1_1 t303 t306) = some r := by rw [if_pos rfl] at H; exact H
          clear H
          have H := H1
          clear H1
          have H' := Aside0.mk H
          clear H
          obtain ⟨Ao41, co41, eo41⟩ := Kd.R_slice HO312.out
          subst eo41
          obtain ⟨Ao42, co42, eo42⟩ := Kd.R_slice HO298.out
          subst eo42
          go_wp2_with (first | ((with_reducible refine gate_callee (f := 18) rfl ?_); refine goesL_ (some 53) rfl rfl Try.func18 (by kernel_rfl) rfl #[.slice Ao41 t310.length co41, .slice Ao42 t296.length co42] rfl (by (try simp only [List.map_toArray, List.map_cons, List.map_nil]); first | done | rfl | (simp only [List.length_drop, List.length_take]; rfl)) ?_; (with_reducible refine (laws_eqPeriodS.calls k _ _ t310 _ _ t296 true _ ?side1 ?side2 ?side3 ?side4 A39.out).mono ?_); (case side1 => repeat (first | exact (Kd.R_reads' HO312.out).2.2 | (with_reducible refine Kd.C_alloc ?_ _) | (with_reducible refine Kd.C_drewN ?_ _) | (with_reducible refine Kd.C_drew ?_))); (case side2 => exact (Kd.R_reads' HO312.out).2.1); (case side3 => repeat (first | exact (Kd.R_reads' HO298.out).2.2 | (with_reducible refine Kd.C_alloc ?_ _) | (with_reducible refine Kd.C_drewN ?_ _) | (with_reducible refine Kd.C_drew ?_))); (case side4 => exact (Kd.R_reads' HO298.out).2.1); rintro e w43 ⟨rfl, hb⟩; refine ⟨_, rfl, ?_⟩; have n0_ := Aside0.mk (Kd.R_below (by (with_reducible repeat (first | apply Kd.R_alloc | apply Kd.R_drewN | apply Kd.R_drew)); exact HO289.out) hb); have n1_ := Aside0.mk (Kd.R_below (by (with_reducible repeat (first | apply Kd.R_alloc | apply Kd.R_drewN | apply Kd.R_drew)); exact HO292.out) hb); have n2_ := Aside0.mk (Kd.R_below (by (with_reducible repeat (first | apply Kd.R_alloc | apply Kd.R_drewN | apply Kd.R_drew)); exact HO295.out) hb); have n3_ := Aside0.mk (Kd.R_below (by (with_reducible repeat (first | apply Kd.R_alloc | apply Kd.R_drewN | apply Kd.R_drew)); exact HO298.out) hb); have n4_ := Aside0.mk (Kd.R_below (by (with_reducible repeat (first | apply Kd.R_alloc | apply Kd.R_drewN | apply Kd.R_drew)); exact HO302.out) hb); have n5_ := Aside0.mk (Kd.R_below (by (with_reducible repeat (first | apply Kd.R_alloc | apply Kd.R_drewN | apply Kd.R_drew)); exact HO305.out) hb); have n6_ := Aside0.mk (Kd.R_below (by (with_reducible repeat (first | apply Kd.R_alloc | apply Kd.R_drewN | apply Kd.R_drew)); exact HO308.out) hb); have n7_ := Aside0.mk (Kd.R_below (by (with_reducible repeat (first | apply Kd.R_alloc | apply Kd.R_drewN | apply Kd.R_drew)); exact HO312.out) hb); have n8_ := Aside0.mk (blk_below (g := gb285) (o := .cells #[.slice A1_0 l1_0.length c1_0, .slice A1_1 l1_1.length c1_1] 45 (0, 0)) (by (with_reducible repeat (first | refine blk_drewN ?_ _ | refine blk_drew ?_ | refine blk_alloc ?_ _)); exact BK285.out) hb); have n9_ := Aside0.mk (blk_below (g := gb309) (o := .cells #[.slice Ao33 t303.length co33, .slice Ao36 t306.length co36] 48 (0, 0)) (by (with_reducible repeat (first | refine blk_drewN ?_ _ | refine blk_drew ?_ | refine blk_alloc ?_ _)); exact BK309.out) hb); have n10_ := Aside0.mk (below_step (by repeat (first | (with_reducible first | exact HB.out | apply below_alloc | apply pw_below_drewN | apply below_drew1 | refine below_set ?_ GE285.out | refine below_set ?_ GE309.out) | exact HB.out)) hb); clear HO289; clear HO292; clear HO295; clear HO298; clear HO302; clear HO305; clear HO308; clear HO312; clear BK285; clear BK309; clear HB; have HO289 := n0_; have HO292 := n1_; have HO295 := n2_; have HO298 := n3_; have HO302 := n4_; have HO305 := n5_; have HO308 := n6_; have HO312 := n7_; have BK285 := n8_; have BK309 := n9_; have HB := n10_; clear n0_ n1_ n2_ n3_ n4_ n5_ n6_ n7_ n8_ n9_ n10_; (try clear hb); (try clear hb2); (try clear hk); (try clear hi)))
          go_meet
          case rel => exact ⟨_, ((t313 != t299)), (by first | rfl | (simp; done) | (simp [*]; done)), H', ⟨by first | omega | exact Nat.le_refl _⟩, ⟨by (with_reducible repeat (first | apply Kd.R_alloc | apply Kd.R_drewN | apply Kd.R_drew)); exact Kd.R_mono HO298.out (fun _ hk => hk.2)⟩, ⟨by (with_reducible repeat (first | apply Kd.R_alloc | apply Kd.R_drewN | apply Kd.R_drew)); exact Kd.R_mono HO302.out (fun _ hk => ⟨hk.1.2, hk.2⟩)⟩, ⟨by (with_reducible repeat (first | apply Kd.R_alloc | apply Kd.R_drewN | apply Kd.R_drew)); exact Kd.R_mono HO312.out (fun _ hk => hk.2)⟩, ⟨by (with_reducible repeat (first | apply Kd.R_alloc | apply Kd.R_drewN | apply Kd.R_drew)); exact Kd.R_mono HO305.out (fun _ hk => ⟨hk.2, hk.1.1.1.1⟩)⟩, ⟨by (with_reducible repeat (first | apply Kd.R_alloc | apply Kd.R_drewN | apply Kd.R_drew)); exact Kd.R_mono HO308.out (fun _ hk => ⟨hk.2, hk.1.1.1.1⟩)⟩, ⟨by (with_reducible repeat (first | refine blk_drewN ?_ _ | refine blk_drew ?_ | refine blk_alloc ?_ _)); exact BK285.out⟩, ⟨by (with_reducible repeat (first | refine blk_drewN ?_ _ | refine blk_drew ?_ | refine blk_alloc ?_ _)); exact BK309.out⟩, ⟨by repeat (first | (with_reducible first | exact HB.out | apply below_alloc | apply pw_below_drewN | apply below_drew1 | refine below_set ?_ GE285.out | refine below_set ?_ GE309.out) | exact HB.out)⟩⟩
        · replace c40 := Bool.eq_false_iff.mpr c40
          subst c40
          have H1 : (laws_FnExactMakeSchedule.j0 k l0 a2 a3 t296 t299 t300 t310 t313 true l1_0 l1_1 t303 t306) = some r := by rw [if_neg (show ¬ (false = true) by decide)] at H; exact H
          clear H
          have H := H1
          clear H1
          have H' := Aside0.mk H
          clear H
          obtain ⟨Ao44, co44, eo44⟩ := Kd.R_slice HO312.out
          subst eo44
          obtain ⟨Ao45, co45, eo45⟩ := Kd.R_slice HO298.out
          subst eo45
          go_wp2_with (first | ((with_reducible refine gate_callee (f := 18) rfl ?_); refine goesL_ (some 53) rfl rfl Try.func18 (by kernel_rfl) rfl #[.slice Ao44 t310.length co44, .slice Ao45 t296.length co45] rfl (by (try simp only [List.map_toArray, List.map_cons, List.map_nil]); first | done | rfl | (simp only [List.length_drop, List.length_take]; rfl)) ?_; (with_reducible refine (laws_eqPeriodS.calls k _ _ t310 _ _ t296 false _ ?side1 ?side2 ?side3 ?side4 A39.out).mono ?_); (case side1 => repeat (first | exact (Kd.R_reads' HO312.out).2.2 | (with_reducible refine Kd.C_alloc ?_ _) | (with_reducible refine Kd.C_drewN ?_ _) | (with_reducible refine Kd.C_drew ?_))); (case side2 => exact (Kd.R_reads' HO312.out).2.1); (case side3 => repeat (first | exact (Kd.R_reads' HO298.out).2.2 | (with_reducible refine Kd.C_alloc ?_ _) | (with_reducible refine Kd.C_drewN ?_ _) | (with_reducible refine Kd.C_drew ?_))); (case side4 => exact (Kd.R_reads' HO298.out).2.1); rintro e w46 ⟨rfl, hb⟩; refine ⟨_, rfl, ?_⟩; have n0_ := Aside0.mk (Kd.R_below (by (with_reducible repeat (first | apply Kd.R_alloc | apply Kd.R_drewN | apply Kd.R_drew)); exact HO289.out) hb); have n1_ := Aside0.mk (Kd.R_below (by (with_reducible repeat (first | apply Kd.R_alloc | apply Kd.R_drewN | apply Kd.R_drew)); exact HO292.out) hb); have n2_ := Aside0.mk (Kd.R_below (by (with_reducible repeat (first | apply Kd.R_alloc | apply Kd.R_drewN | apply Kd.R_drew)); exact HO295.out) hb); have n3_ := Aside0.mk (Kd.R_below (by (with_reducible repeat (first | apply Kd.R_alloc | apply Kd.R_drewN | apply Kd.R_drew)); exact HO298.out) hb); have n4_ := Aside0.mk (Kd.R_below (by (with_reducible repeat (first | apply Kd.R_alloc | apply Kd.R_drewN | apply Kd.R_drew)); exact HO302.out) hb); have n5_ := Aside0.mk (Kd.R_below (by (with_reducible repeat (first | apply Kd.R_alloc | apply Kd.R_drewN | apply Kd.R_drew)); exact HO305.out) hb); have n6_ := Aside0.mk (Kd.R_below (by (with_reducible repeat (first | apply Kd.R_alloc | apply Kd.R_drewN | apply Kd.R_drew)); exact HO308.out) hb); have n7_ := Aside0.mk (Kd.R_below (by (with_reducible repeat (first | apply Kd.R_alloc | apply Kd.R_drewN | apply Kd.R_drew)); exact HO312.out) hb); have n8_ := Aside0.mk (blk_below (g := gb285) (o := .cells #[.slice A1_0 l1_0.length c1_0, .slice A1_1 l1_1.length c1_1] 45 (0, 0)) (by (with_reducible repeat (first | refine blk_drewN ?_ _ | refine blk_drew ?_ | refine blk_alloc ?_ _)); exact BK285.out) hb); have n9_ := Aside0.mk (blk_below (g := gb309) (o := .cells #[.slice Ao33 t303.length co33, .slice Ao36 t306.length co36] 48 (0, 0)) (by (with_reducible repeat (first | refine blk_drewN ?_ _ | refine blk_drew ?_ | refine blk_alloc ?_ _)); exact BK309.out) hb); have n10_ := Aside0.mk (below_step (by repeat (first | (with_reducible first | exact HB.out | apply below_alloc | apply pw_below_drewN | apply below_drew1 | refine below_set ?_ GE285.out | refine below_set ?_ GE309.out) | exact HB.out)) hb); clear HO289; clear HO292; clear HO295; clear HO298; clear HO302; clear HO305; clear HO308; clear HO312; clear BK285; clear BK309; clear HB; have HO289 := n0_; have HO292 := n1_; have HO295 := n2_; have HO298 := n3_; have HO302 := n4_; have HO305 := n5_; have HO308 := n6_; have HO312 := n7_; have BK285 := n8_; have BK309 := n9_; have HB := n10_; clear n0_ n1_ n2_ n3_ n4_ n5_ n6_ n7_ n8_ n9_ n10_; (try clear hb); (try clear hb2); (try clear hk); (try clear hi)))
          go_meet
          case rel => exact ⟨_, (true), (by first | rfl | (simp; done) | (simp [*]; done)), H', ⟨by first | omega | exact Nat.le_refl _⟩, ⟨by (with_reducible repeat (first | apply Kd.R_alloc | apply Kd.R_drewN | apply Kd.R_drew)); exact Kd.R_mono HO298.out (fun _ hk => hk.2)⟩, ⟨by (with_reducible repeat (first | apply Kd.R_alloc | apply Kd.R_drewN | apply Kd.R_drew)); exact Kd.R_mono HO302.out (fun _ hk => ⟨hk.1.2, hk.2⟩)⟩, ⟨by (with_reducible repeat (first | apply Kd.R_alloc | apply Kd.R_drewN | apply Kd.R_drew)); exact Kd.R_mono HO312.out (fun _ hk => hk.2)⟩, ⟨by (with_reducible repeat (first | apply Kd.R_alloc | apply Kd.R_drewN | apply Kd.R_drew)); exact Kd.R_mono HO305.out (fun _ hk => ⟨hk.2, hk.1.1.1.1⟩)⟩, ⟨by (with_reducible repeat (first | apply Kd.R_alloc | apply Kd.R_drewN | apply Kd.R_drew)); exact Kd.R_mono HO308.out (fun _ hk => ⟨hk.2, hk.1.1.1.1⟩)⟩, ⟨by (with_reducible repeat (first | refine blk_drewN ?_ _ | refine blk_drew ?_ | refine blk_alloc ?_ _)); exact BK285.out⟩, ⟨by (with_reducible repeat (first | refine blk_drewN ?_ _ | refine blk_drew ?_ | refine blk_alloc ?_ _)); exact BK309.out⟩, ⟨by repeat (first | (with_reducible first | exact HB.out | apply below_alloc | apply pw_below_drewN | apply below_drew1 | refine below_set ?_ GE285.out | refine below_set ?_ GE309.out) | exact HB.out)⟩⟩
      case rest =>
        clear HC18
        try clear c1
        try clear c2
        try clear p2
        try clear c3
        try clear c4
        try clear c5
        try clear c5b0
        try clear c5b1
        try clear c8
        try clear c8b0
        try clear c9
        try clear c18
        try clear c22
        try clear c34
        try clear c35
        try clear c36
        try clear c37
        try clear c38
        try clear c40
        try clear hcz10_0
        try clear hcz10_1
        try clear hcz20_0
        try clear hcz20_1
        try clear hcz30_0
        try clear hcz30_1
        try clear hcz35_0
        try clear hcz35_1
        try clear hfz10_0
        try clear hfz10_1
        try clear hfz20_0
        try clear hfz20_1
        try clear hfz30_0
        try clear hfz30_1
        try clear hfz35_0
        try clear hfz35_1
        obtain ⟨kq, x59_17, rfl, HA, HJ17, HO_10, HO_12, HO_14, HO_310000, HO_310001, BK285, BK309, HB⟩ := hcut
        cases kq with
        | zero => exact absurd HA.out (by simp [laws_FnExactMakeSchedule.j0])
        | succ kj17 =>
          have H := HA.out
          clear HA
          simp only [laws_FnExactMakeSchedule.j0] at H
          by_cases c47 : x59_17 = true
          · subst c47
            have H1 : (some false) = some r := by rw [if_pos rfl] at H; exact H
            clear H
            have H := H1
            clear H1
            obtain rfl := Option.some.inj H
            go_wp2
            go_ret
            exact ⟨by first | rfl | (simp only [Int.mul_zero, show wrap64 0 = 0 from by unfold wrap64; omega]; rfl) | (simp [errW_none, errW_some] <;> rfl) | (simp [*, errW_none, errW_some] <;> rfl), by repeat (first | (with_reducible first | exact HB.out | apply below_alloc | apply pw_below_drewN | apply below_drew1 | refine below_set ?_ GE285.out | refine below_set ?_ GE309.out) | exact HB.out)⟩
          · replace c47 := Bool.eq_false_iff.mpr c47
            subst c47
            have H1 : ((laws_toIntS.f kj17 l0).bind fun t315 => ((laws_eqIntS.f kj17 t300 t315).bind fun t318 => (if t318 = true then ((laws_toCalendar.f kj17 l1_0 l1_1).bind fun bt319 => ((laws_eqCalendar.f kj17 t303 t306 bt319.1 bt319.2).bind fun t325 => (if t325 = true then ((laws_markIntS.f kj17 t300 1).bind fun bt326 => ((laws_markCalendar.f kj17 t303 t306 bt326.1).bind fun bt328 => (if bt328.1 < 0 then (laws_FnExactMakeSchedule.j1 kj17 l0 a2 a3 t296 t299 t310 true l1_0 l1_1) else ((laws_eqPeriodS.f kj17 t310 t296).bind fun t331 => (if t331 = true then (laws_FnExactMakeSchedule.j1 kj17 l0 a2 a3 t296 t299 t310 (t313 != t299) l1_0 l1_1) else (laws_FnExactMakeSchedule.j1 kj17 l0 a2 a3 t296 t299 t310 true l1_0 l1_1)))))) else (some false)))) else (some false)))) = some r := by rw [if_neg (show ¬ (false = true) by decide)] at H; exact H
            clear H
            have H := H1
            clear H1
            replace H := Option.bind_eq_some_iff.mp H
            obtain ⟨t315, A480, H⟩ := H
            replace H : ((laws_eqIntS.f kj17 t300 t315).bind fun t318 => (if t318 = true then ((laws_toCalendar.f kj17 l1_0 l1_1).bind fun bt319 => ((laws_eqCalendar.f kj17 t303 t306 bt319.1 bt319.2).bind fun t325 => (if t325 = true then ((laws_markIntS.f kj17 t300 1).bind fun bt326 => ((laws_markCalendar.f kj17 t303 t306 bt326.1).bind fun bt328 => (if bt328.1 < 0 then (laws_FnExactMakeSchedule.j1 kj17 l0 a2 a3 t296 t299 t310 true l1_0 l1_1) else ((laws_eqPeriodS.f kj17 t310 t296).bind fun t331 => (if t331 = true then (laws_FnExactMakeSchedule.j1 kj17 l0 a2 a3 t296 t299 t310 (t313 != t299) l1_0 l1_1) else (laws_FnExactMakeSchedule.j1 kj17 l0 a2 a3 t296 t299 t310 true l1_0 l1_1)))))) else (some false)))) else (some false))) = some r := H
            have A48 := Aside0.mk A480
            clear A480
            replace H := Option.bind_eq_some_iff.mp H
            obtain ⟨t318, A490, H⟩ := H
            replace H : (if t318 = true then ((laws_toCalendar.f kj17 l1_0 l1_1).bind fun bt319 => ((laws_eqCalendar.f kj17 t303 t306 bt319.1 bt319.2).bind fun t325 => (if t325 = true then ((laws_markIntS.f kj17 t300 1).bind fun bt326 => ((laws_markCalendar.f kj17 t303 t306 bt326.1).bind fun bt328 => (if bt328.1 < 0 then (laws_FnExactMakeSchedule.j1 kj17 l0 a2 a3 t296 t299 t310 true l1_0 l1_1) else ((laws_eqPeriodS.f kj17 t310 t296).bind fun t331 => (if t331 = true then (laws_FnExactMakeSchedule.j1 kj17 l0 a2 a3 t296 t299 t310 (t313 != t299) l1_0 l1_1) else (laws_FnExactMakeSchedule.j1 kj17 l0 a2 a3 t296 t299 t310 true l1_0 l1_1)))))) else (some false)))) else (some false)) = some r := H
            have A49 := Aside0.mk A490
            clear A490
            by_cases c50 : t318 = true
            · subst c50
              have H1 : ((laws_toCalendar.f kj17 l1_0 l1_1).bind fun bt319 => ((laws_eqCalendar.f kj17 t303 t306 bt319.1 bt319.2).bind fun t325 => (if t325 = true then ((laws_markIntS.f kj17 t300 1).bind fun bt326 => ((laws_markCalendar.f kj17 t303 t306 bt326.1).bind fun bt328 => (if bt328.1 < 0 then (laws_FnExactMakeSchedule.j1 kj17 l0 a2 a3 t296 t299 t310 true l1_0 l1_1) else ((laws_eqPeriodS.f kj17 t310 t296).bind fun t331 => (if t331 = true then (laws_FnExactMakeSchedule.j1 kj17 l0 a2 a3 t296 t299 t310 (t313 != t299) l1_0 l1_1) else (laws_FnExactMakeSchedule.j1 kj17 l0 a2 a3 t296 t299 t310 true l1_0 l1_1)))))) else (some false)))) = some r := by rw [if_pos rfl] at H; exact H
              clear H
              have H := H1
              clear H1
              replace H := Option.bind_eq_some_iff.mp H
              obtain ⟨⟨t319, t322⟩, A510, H⟩ := H
              replace H : ((laws_eqCalendar.f kj17 t303 t306 t319 t322).bind fun t325 => (if t325 = true then ((laws_markIntS.f kj17 t300 1).bind fun bt326 => ((laws_markCalendar.f kj17 t303 t306 bt326.1).bind fun bt328 => (if bt328.1 < 0 then (laws_FnExactMakeSchedule.j1 kj17 l0 a2 a3 t296 t299 t310 true l1_0 l1_1) else ((laws_eqPeriodS.f kj17 t310 t296).bind fun t331 => (if t331 = true then (laws_FnExactMakeSchedule.j1 kj17 l0 a2 a3 t296 t299 t310 (t313 != t299) l1_0 l1_1) else (laws_FnExactMakeSchedule.j1 kj17 l0 a2 a3 t296 t299 t310 true l1_0 l1_1)))))) else (some false))) = some r := H
              have A51 := Aside0.mk A510
              clear A510
              replace H := Option.bind_eq_some_iff.mp H
              obtain ⟨t325, A520, H⟩ := H
              replace H : (if t325 = true then ((laws_markIntS.f kj17 t300 1).bind fun bt326 => ((laws_markCalendar.f kj17 t303 t306 bt326.1).bind fun bt328 => (if bt328.1 < 0 then (laws_FnExactMakeSchedule.j1 kj17 l0 a2 a3 t296 t299 t310 true l1_0 l1_1) else ((laws_eqPeriodS.f kj17 t310 t296).bind fun t331 => (if t331 = true then (laws_FnExactMakeSchedule.j1 kj17 l0 a2 a3 t296 t299 t310 (t313 != t299) l1_0 l1_1) else (laws_FnExactMakeSchedule.j1 kj17 l0 a2 a3 t296 t299 t310 true l1_0 l1_1)))))) else (some false)) = some r := H
              have A52 := Aside0.mk A520
              clear A520
              by_cases c53 : t325 = true
              · subst c53
                have H1 : ((laws_markIntS.f kj17 t300 1).bind fun bt326 => ((laws_markCalendar.f kj17 t303 t306 bt326.1).bind fun bt328 => (if bt328.1 < 0 then (laws_FnExactMakeSchedule.j1 kj17 l0 a2 a3 t296 t299 t310 true l1_0 l1_1) else ((laws_eqPeriodS.f kj17 t310 t296).bind fun t331 => (if t331 = true then (laws_FnExactMakeSchedule.j1 kj17 l0 a2 a3 t296 t299 t310 (t313 != t299) l1_0 l1_1) else (laws_FnExactMakeSchedule.j1 kj17 l0 a2 a3 t296 t299 t310 true l1_0 l1_1)))))) = some r := by rw [if_pos rfl] at H; exact H
                clear H
                have H := H1
                clear H1
                replace H := Option.bind_eq_some_iff.mp H
                obtain ⟨⟨t326, t327⟩, A540, H⟩ := H
                replace H : ((laws_markCalendar.f kj17 t303 t306 t326).bind fun bt328 => (if bt328.1 < 0 then (laws_FnExactMakeSchedule.j1 kj17 l0 a2 a3 t296 t299 t310 true l1_0 l1_1) else ((laws_eqPeriodS.f kj17 t310 t296).bind fun t331 => (if t331 = true then (laws_FnExactMakeSchedule.j1 kj17 l0 a2 a3 t296 t299 t310 (t313 != t299) l1_0 l1_1) else (laws_FnExactMakeSchedule.j1 kj17 l0 a2 a3 t296 t299 t310 true l1_0 l1_1))))) = some r := H
                have A54 := Aside0.mk A540
                clear A540
                replace H := Option.bind_eq_some_iff.mp H
                obtain ⟨⟨t328, t329, t330⟩, A550, H⟩ := H
                replace H : (if t328 < 0 then (laws_FnExactMakeSchedule.j1 kj17 l0 a2 a3 t296 t299 t310 true l1_0 l1_1) else ((laws_eqPeriodS.f kj17 t310 t296).bind fun t331 => (if t331 = true then (laws_FnExactMakeSchedule.j1 kj17 l0 a2 a3 t296 t299 t310 (t313 != t299) l1_0 l1_1) else (laws_FnExactMakeSchedule.j1 kj17 l0 a2 a3 t296 t299 t310 true l1_0 l1_1)))) = some r := H
                have A55 := Aside0.mk A550
                clear A550
                have HC56 := Aside0.mk H
                clear H
                try go_wp2_with (first | ((with_reducible refine gate_callee (f := 22) rfl ?_); refine goesL_ (some 62) rfl rfl Try.func22 (by kernel_rfl) rfl #[.slice A0 l0.length c0] rfl (by (try simp only [List.map_toArray, List.map_cons, List.map_nil]); first | done | rfl | (simp only [List.length_drop, List.length_take]; rfl)) ?_; (with_reducible refine (laws_toIntS.calls kj17 _ _ l0 t315 _ ?side1 ?side2 A48.out).mono ?_); (case side1 => repeat (first | exact (Kd.C_below HR0.out HB.out) | (with_reducible refine Kd.C_alloc ?_ _) | (with_reducible refine Kd.C_drewN ?_ _) | (with_reducible refine Kd.C_drew ?_))); (case side2 => exact HC0.out); rintro e w57 ⟨v316, rfl, ho0, hb⟩; refine ⟨_, rfl, ?_⟩; have n0_ := Aside0.mk (Kd.R_below (by (with_reducible repeat (first | apply Kd.R_alloc | apply Kd.R_drewN | apply Kd.R_drew)); exact HO_10.out) hb); have n1_ := Aside0.mk (Kd.R_elder' (by (with_reducible repeat (first | apply Kd.R_alloc | apply Kd.R_drewN | apply Kd.R_drew)); exact HO_12.out) (Kd.R_base ho0) hb); have n2_ := Aside0.mk (Kd.R_below (by (with_reducible repeat (first | apply Kd.R_alloc | apply Kd.R_drewN | apply Kd.R_drew)); exact HO_14.out) hb); have n3_ := Aside0.mk (Kd.R_elder' (by (with_reducible repeat (first | apply Kd.R_alloc | apply Kd.R_drewN | apply Kd.R_drew)); exact HO_310000.out) (Kd.R_base ho0) hb); have n4_ := Aside0.mk (Kd.R_elder' (by (with_reducible repeat (first | apply Kd.R_alloc | apply Kd.R_drewN | apply Kd.R_drew)); exact HO_310001.out) (Kd.R_base ho0) hb); have n5_ := Aside0.mk (Kd.R_lower (Kd.R_new' (Kd.R_new' (Kd.R_new' ho0 (Kd.R_lt (by (with_reducible repeat (first | apply Kd.R_alloc | apply Kd.R_drewN | apply Kd.R_drew)); exact HO_12.out))) (Kd.R_lt (by (with_reducible repeat (first | apply Kd.R_alloc | apply Kd.R_drewN | apply Kd.R_drew)); exact HO_310000.out))) (Kd.R_lt (by (with_reducible repeat (first | apply Kd.R_alloc | apply Kd.R_drewN | apply Kd.R_drew)); exact HO_310001.out))) (below_size (by repeat (first | (with_reducible first | exact HB.out | apply below_alloc | apply pw_below_drewN | apply below_drew1 | refine below_set ?_ GE285.out | refine below_set ?_ GE309.out) | exact HB.out)))); have n6_ := Aside0.mk (blk_below (g := gb285) (o := .cells #[.slice A1_0 l1_0.length c1_0, .slice A1_1 l1_1.length c1_1] 45 (0, 0)) (by (with_reducible repeat (first | refine blk_drewN ?_ _ | refine blk_drew ?_ | refine blk_alloc ?_ _)); exact BK285.out) hb); have n7_ := Aside0.mk (blk_below (g := gb309) (o := .cells #[.slice Ao33 t303.length co33, .slice Ao36 t306.length co36] 48 (0, 0)) (by (with_reducible repeat (first | refine blk_drewN ?_ _ | refine blk_drew ?_ | refine blk_alloc ?_ _)); exact BK309.out) hb); have n8_ := Aside0.mk (below_step (by repeat (first | (with_reducible first | exact HB.out | apply below_alloc | apply pw_below_drewN | apply below_drew1 | refine below_set ?_ GE285.out | refine below_set ?_ GE309.out) | exact HB.out)) hb); clear HO_10; clear HO_12; clear HO_14; clear HO_310000; clear HO_310001; clear BK285; clear BK309; clear HB; have HO_10 := n0_; have HO_12 := n1_; have HO_14 := n2_; have HO_310000 := n3_; have HO_310001 := n4_; have HO317 := n5_; have BK285 := n6_; have BK309 := n7_; have HB := n8_; clear n0_ n1_ n2_ n3_ n4_ n5_ n6_ n7_ n8_; (try clear hb); (try clear hb2); (try clear hk); (try clear hi); (try clear ho0); obtain ⟨Ao58, co58, eo58⟩ := Kd.R_slice HO317.out; subst eo58) | ((with_reducible refine gate_callee (f := 24) rfl ?_); refine goesL_ (some 63) rfl rfl Try.func24 (by kernel_rfl) rfl #[.slice Ao37 t300.length co37, .slice Ao58 t315.length co58] rfl (by (try simp only [List.map_toArray, List.map_cons, List.map_nil]); first | done | rfl | (simp only [List.length_drop, List.length_take]; rfl)) ?_; (with_reducible refine (laws_eqIntS.calls kj17 _ _ t300 _ _ t315 true _ ?side1 ?side2 ?side3 ?side4 A49.out).mono ?_); (case side1 => repeat (first | exact (Kd.R_reads' HO_12.out).2.2 | (with_reducible refine Kd.C_alloc ?_ _) | (with_reducible refine Kd.C_drewN ?_ _) | (with_reducible refine Kd.C_drew ?_))); (case side2 => exact (Kd.R_reads' HO_12.out).2.1); (case side3 => repeat (first | exact (Kd.R_reads' HO317.out).2.2 | (with_reducible refine Kd.C_alloc ?_ _) | (with_reducible refine Kd.C_drewN ?_ _) | (with_reducible refine Kd.C_drew ?_))); (case side4 => exact (Kd.R_reads' HO317.out).2.1); rintro e w' ⟨rfl, ⟨nd, rfl⟩⟩; refine ⟨_, rfl, ?_⟩))
                (try (rw [drewN_self w57]; generalize hq_ : World.drewN w57 _ = w57; have n0_ : Aside0 (Kd.R (Kd.int .i64) 3 w57 w.heap.size (fun k_ => some k_ ≠ (.slice Ao37 t300.length co37 : Value).ownBlock ∧ some k_ ≠ (.slice Ao33 t303.length co33 : Value).ownBlock ∧ some k_ ≠ (.slice Ao36 t306.length co36 : Value).ownBlock) (.slice Ao58 t315.length co58) t315) := ⟨by rw [← hq_]; exact (by (with_reducible repeat (first | apply Kd.R_alloc | apply Kd.R_drewN | apply Kd.R_drew)); exact Kd.R_mono HO317.out (fun _ hk => ⟨hk.1.1.2, ⟨hk.1.2, hk.2⟩⟩))⟩; have n1_ : Aside0 (Kd.R k60 60 w57 w.heap.size (fun k_ => some k_ ≠ (v311 : Value).ownBlock) v297 t296) := ⟨by rw [← hq_]; exact (by (with_reducible repeat (first | apply Kd.R_alloc | apply Kd.R_drewN | apply Kd.R_drew)); exact HO_10.out)⟩; have n2_ : Aside0 (Kd.R (Kd.int .i64) 3 w57 w.heap.size (fun k_ => some k_ ≠ (.slice Ao58 t315.length co58 : Value).ownBlock ∧ some k_ ≠ (.slice Ao33 t303.length co33 : Value).ownBlock ∧ some k_ ≠ (.slice Ao36 t306.length co36 : Value).ownBlock) (.slice Ao37 t300.length co37) t300) := ⟨by rw [← hq_]; exact (by (with_reducible repeat (first | apply Kd.R_alloc | apply Kd.R_drewN | apply Kd.R_drew)); exact Kd.R_mono HO_12.out (fun _ hk => ⟨hk.2, ⟨hk.1.1, hk.1.2⟩⟩))⟩; have n3_ : Aside0 (Kd.R k60 60 w57 w.heap.size (fun k_ => some k_ ≠ (v297 : Value).ownBlock) v311 t310) := ⟨by rw [← hq_]; exact (by (with_reducible repeat (first | apply Kd.R_alloc | apply Kd.R_drewN | apply Kd.R_drew)); exact HO_14.out)⟩; have n4_ : Aside0 (Kd.R (Kd.int .i64) 3 w57 w.heap.size (fun k_ => some k_ ≠ (.slice Ao58 t315.length co58 : Value).ownBlock ∧ some k_ ≠ (.slice Ao37 t300.length co37 : Value).ownBlock ∧ some k_ ≠ (.slice Ao36 t306.length co36 : Value).ownBlock) (.slice Ao33 t303.length co33) t303) := ⟨by rw [← hq_]; exact (by (with_reducible repeat (first | apply Kd.R_alloc | apply Kd.R_drewN | apply Kd.R_drew)); exact Kd.R_mono HO_310000.out (fun _ hk => ⟨hk.2, ⟨hk.1.1, hk.1.2⟩⟩))⟩; have n5_ : Aside0 (Kd.R (Kd.int .i64) 3 w57 w.heap.size (fun k_ => some k_ ≠ (.slice Ao58 t315.length co58 : Value).ownBlock ∧ some k_ ≠ (.slice Ao37 t300.length co37 : Value).ownBlock ∧ some k_ ≠ (.slice Ao33 t303.length co33 : Value).ownBlock) (.slice Ao36 t306.length co36) t306) := ⟨by rw [← hq_]; exact (by (with_reducible repeat (first | apply Kd.R_alloc | apply Kd.R_drewN | apply Kd.R_drew)); exact Kd.R_mono HO_310001.out (fun _ hk => ⟨hk.2, ⟨hk.1.1, hk.1.2⟩⟩))⟩; have n6_ : Aside0 (w57.heap[gb285]? = some (.cells #[.slice A1_0 l1_0.length c1_0, .slice A1_1 l1_1.length c1_1] 45 (0, 0))) := ⟨by rw [← hq_]; exact (by (with_reducible repeat (first | refine blk_drewN ?_ _ | refine blk_drew ?_ | refine blk_alloc ?_ _)); exact BK285.out)⟩; have n7_ : Aside0 (w57.heap[gb309]? = some (.cells #[.slice Ao33 t303.length co33, .slice Ao36 t306.length co36] 48 (0, 0))) := ⟨by rw [← hq_]; exact (by (with_reducible repeat (first | refine blk_drewN ?_ _ | refine blk_drew ?_ | refine blk_alloc ?_ _)); exact BK309.out)⟩; have n8_ : Aside0 (Below w.heap.size w w57) := ⟨by rw [← hq_]; exact (by repeat (first | (with_reducible first | exact HB.out | apply below_alloc | apply pw_below_drewN | apply below_drew1 | refine below_set ?_ GE285.out | refine below_set ?_ GE309.out) | exact HB.out))⟩; clear HO317 HO_10 HO_12 HO_14 HO_310000 HO_310001 BK285 BK309 HB hq_; have HO317 := n0_; have HO_10 := n1_; have HO_12 := n2_; have HO_14 := n3_; have HO_310000 := n4_; have HO_310001 := n5_; have BK285 := n6_; have BK309 := n7_; have HB := n8_; clear n0_ n1_ n2_ n3_ n4_ n5_ n6_ n7_ n8_))
                have n0_ := Aside0.mk (Kd.R_drew HO_10.out)
                have n1_ := Aside0.mk (Kd.R_drew HO_12.out)
                have n2_ := Aside0.mk (Kd.R_drew HO_14.out)
                have n3_ := Aside0.mk (Kd.R_drew HO_310000.out)
                have n4_ := Aside0.mk (Kd.R_drew HO_310001.out)
                have n5_ := Aside0.mk (Kd.R_drew HO317.out)
                have n6_ := Aside0.mk (blk_drew BK285.out)
                have n7_ := Aside0.mk (blk_drew BK309.out)
                have n8_ := Aside0.mk (below_drew1 HB.out)
                clear HO_10
                clear HO_12
                clear HO_14
                clear HO_310000
                clear HO_310001
                clear HO317
                clear BK285
                clear BK309
                clear HB
                have HO_10 := n0_
                have HO_12 := n1_
                have HO_14 := n2_
                have HO_310000 := n3_
                have HO_310001 := n4_
                have HO317 := n5_
                have BK285 := n6_
                have BK309 := n7_
                have HB := n8_
                clear n0_ n1_ n2_ n3_ n4_ n5_ n6_ n7_ n8_
                refine start_ (n := 5) (S := fun w' => w'.cell? ⟨gb309, 0, none⟩ = some (.slice Ao33 t303.length co33) ∧ w'.cell? ⟨gb309, 1, none⟩ = some (.slice Ao36 t306.length co36) ∧ w'.cell? ⟨gb285, 0, none⟩ = some (.slice A1_0 l1_0.length c1_0) ∧ w'.cell? ⟨gb285, 1, none⟩ = some (.slice A1_1 l1_1.length c1_1)) (ds := []) #[false, false, false, false, false] (by kernel_rfl) rfl rfl ⟨(blk_cell BK309.out 0).trans rfl, (blk_cell BK309.out 1).trans rfl, (blk_cell BK285.out 0).trans rfl, (blk_cell BK285.out 1).trans rfl⟩ (fun hHeld => ?_)
                generalize w57.drew = w59 at HO_10 HO_12 HO_14 HO_310000 HO_310001 HO317 BK285 BK309 HB hHeld ⊢
                refine take_ (i := 0) (N := some 65) (v := ?_) (a' := ?_) #[true, false, false, false, false] rfl rfl (by kernel_rfl) (fun _ _ _ h => h) (Or.inl ⟨by rfl, ?_⟩) hHeld ?_ ?_
                rotate_left
                · rintro w' ⟨s0, s1, s2, s3⟩
                  go_simp
                  with_reducible rfl
                rotate_left
                · simp only [Act.put, List.setIfInBounds_toArray, List.set_cons_zero, List.set_cons_succ, i64_w, i32_w]
                  rfl
                refine take_ (i := 1) (N := some 66) (v := ?_) (a' := ?_) #[true, true, false, false, false] rfl rfl (by kernel_rfl) (fun _ _ _ h => h) (Or.inl ⟨by rfl, ?_⟩) hHeld ?_ ?_
                rotate_left
                · rintro w' ⟨s0, s1, s2, s3⟩
                  go_simp
                  with_reducible rfl
                rotate_left
                · simp only [Act.put, List.setIfInBounds_toArray, List.set_cons_zero, List.set_cons_succ, i64_w, i32_w]
                  rfl
                refine one_ (i := 2) (N := some 67) #[true, true, true, false, false] rfl rfl (by kernel_rfl) (by decide) (fun K hK => ?_)
                refine goes_ Try.func37 (by kernel_rfl) rfl #[.agg #[.slice A1_0 l1_0.length c1_0, .slice A1_1 l1_1.length c1_1]] (by rfl) rfl rfl (by (try simp only [List.map_toArray, List.map_cons, List.map_nil]); first | done | rfl | (simp only [List.length_drop, List.length_take]; rfl)) ?_
                with_reducible refine (laws_toCalendar.calls kj17 _ _ l1_0 _ _ l1_1 t319 t322 _ ?side1 ?side2 ?side3 ?side4 A51.out).mono ?_
                (case side1 => repeat (first | exact (Kd.C_below HR1_0.out HB.out) | (with_reducible refine Kd.C_alloc ?_ _) | (with_reducible refine Kd.C_drewN ?_ _) | (with_reducible refine Kd.C_drew ?_)))
                (case side2 => exact HC1_0.out)
                (case side3 => repeat (first | exact (Kd.C_below HR1_1.out HB.out) | (with_reducible refine Kd.C_alloc ?_ _) | (with_reducible refine Kd.C_drewN ?_ _) | (with_reducible refine Kd.C_drew ?_)))
                (case side4 => exact HC1_1.out)
                rintro e w60 ⟨v320, v323, rfl, ho0, ho1, hb⟩
                refine ⟨_, rfl, ?_⟩
                have n0_ := Aside0.mk (Kd.R_below (by (with_reducible repeat (first | apply Kd.R_alloc | apply Kd.R_drewN | apply Kd.R_drew)); exact HO_10.out) hb)
                have n1_ := Aside0.mk (Kd.R_mono (Kd.R_told (Kd.R_told (Kd.R_old (by (with_reducible repeat (first | apply Kd.R_alloc | apply Kd.R_drewN | apply Kd.R_drew)); exact HO_12.out) hb) (Kd.R_base ho0)) (Kd.R_base ho1)) (fun _ h_ => h_.1))
                have n2_ := Aside0.mk (Kd.R_below (by (with_reducible repeat (first | apply Kd.R_alloc | apply Kd.R_drewN | apply Kd.R_drew)); exact HO_14.out) hb)
                have n3_ := Aside0.mk (Kd.R_mono (Kd.R_told (Kd.R_told (Kd.R_old (by (with_reducible repeat (first | apply Kd.R_alloc | apply Kd.R_drewN | apply Kd.R_drew)); exact HO_310000.out) hb) (Kd.R_base ho0)) (Kd.R_base ho1)) (fun _ h_ => h_.1))
                have n4_ := Aside0.mk (Kd.R_mono (Kd.R_told (Kd.R_told (Kd.R_old (by (with_reducible repeat (first | apply Kd.R_alloc | apply Kd.R_drewN | apply Kd.R_drew)); exact HO_310001.out) hb) (Kd.R_base ho0)) (Kd.R_base ho1)) (fun _ h_ => h_.1))
                have n5_ := Aside0.mk (Kd.R_mono (Kd.R_told (Kd.R_told (Kd.R_old (by (with_reducible repeat (first | apply Kd.R_alloc | apply Kd.R_drewN | apply Kd.R_drew)); exact HO317.out) hb) (Kd.R_base ho0)) (Kd.R_base ho1)) (fun _ h_ => h_.1))
                have n6_ := Aside0.mk (Kd.R_lower (Kd.R_new' (Kd.R_new' (Kd.R_new' (Kd.R_new' ho0 (Kd.R_lt (by (with_reducible repeat (first | apply Kd.R_alloc | apply Kd.R_drewN | apply Kd.R_drew)); exact HO_12.out))) (Kd.R_lt (by (with_reducible repeat (first | apply Kd.R_alloc | apply Kd.R_drewN | apply Kd.R_drew)); exact HO_310000.out))) (Kd.R_lt (by (with_reducible repeat (first | apply Kd.R_alloc | apply Kd.R_drewN | apply Kd.R_drew)); exact HO_310001.out))) (Kd.R_lt (by (with_reducible repeat (first | apply Kd.R_alloc | apply Kd.R_drewN | apply Kd.R_drew)); exact HO317.out))) (below_size (by repeat (first | (with_reducible first | exact HB.out | apply below_alloc | apply pw_below_drewN | apply below_drew1 | refine below_set ?_ GE285.out | refine below_set ?_ GE309.out) | exact HB.out))))
                have n7_ := Aside0.mk (Kd.R_lower (Kd.R_new' (Kd.R_new' (Kd.R_new' (Kd.R_new' ho1 (Kd.R_lt (by (with_reducible repeat (first | apply Kd.R_alloc | apply Kd.R_drewN | apply Kd.R_drew)); exact HO_12.out))) (Kd.R_lt (by (with_reducible repeat (first | apply Kd.R_alloc | apply Kd.R_drewN | apply Kd.R_drew)); exact HO_310000.out))) (Kd.R_lt (by (with_reducible repeat (first | apply Kd.R_alloc | apply Kd.R_drewN | apply Kd.R_drew)); exact HO_310001.out))) (Kd.R_lt (by (with_reducible repeat (first | apply Kd.R_alloc | apply Kd.R_drewN | apply Kd.R_drew)); exact HO317.out))) (below_size (by repeat (first | (with_reducible first | exact HB.out | apply below_alloc | apply pw_below_drewN | apply below_drew1 | refine below_set ?_ GE285.out | refine below_set ?_ GE309.out) | exact HB.out))))
                have n8_ := Aside0.mk (blk_below (g := gb285) (o := .cells #[.slice A1_0 l1_0.length c1_0, .slice A1_1 l1_1.length c1_1] 45 (0, 0)) (by (with_reducible repeat (first | refine blk_drewN ?_ _ | refine blk_drew ?_ | refine blk_alloc ?_ _)); exact BK285.out) hb)
                have n9_ := Aside0.mk (blk_below (g := gb309) (o := .cells #[.slice Ao33 t303.length co33, .slice Ao36 t306.length co36] 48 (0, 0)) (by (with_reducible repeat (first | refine blk_drewN ?_ _ | refine blk_drew ?_ | refine blk_alloc ?_ _)); exact BK309.out) hb)
                have n10_ := Aside0.mk (below_step (by repeat (first | (with_reducible first | exact HB.out | apply below_alloc | apply pw_below_drewN | apply below_drew1 | refine below_set ?_ GE285.out | refine below_set ?_ GE309.out) | exact HB.out)) hb)
                clear HO_10
                clear HO_12
                clear HO_14
                clear HO_310000
                clear HO_310001
                clear HO317
                clear BK285
                clear BK309
                clear HB
                have HO_10 := n0_
                have HO_12 := n1_
                have HO_14 := n2_
                have HO_310000 := n3_
                have HO_310001 := n4_
                have HO317 := n5_
                have HO321 := n6_
                have HO324 := n7_
                have BK285 := n8_
                have BK309 := n9_
                have HB := n10_
                clear n0_ n1_ n2_ n3_ n4_ n5_ n6_ n7_ n8_ n9_ n10_
                (try clear hb)
                (try clear hb2)
                (try clear hk)
                (try clear hi)
                (try clear ho0)
                (try clear ho1)
                obtain ⟨Ao61, co61, eo61⟩ := Kd.R_slice HO321.out
                (first | subst eo61 | (injection eo61 with f1_ f2_ f3_; have f4_ := f1_.symm; have f5_ := f3_.symm; clear f1_ f2_ f3_; subst f4_; subst f5_))
                obtain ⟨Ao62, co62, eo62⟩ := Kd.R_slice HO324.out
                (first | subst eo62 | (injection eo62 with f1_ f2_ f3_; have f4_ := f1_.symm; have f5_ := f3_.symm; clear f1_ f2_ f3_; subst f4_; subst f5_))
                refine hK.out _ _ ⟨(blk_cell BK309.out 0).trans rfl, (blk_cell BK309.out 1).trans rfl, (blk_cell BK285.out 0).trans rfl, (blk_cell BK285.out 1).trans rfl⟩ (fun hHeld => ?_)
                clear hK K
                refine norm_ (a' := ?_) ?_ ?_
                rotate_left
                · show Act.put _ (some 67) _ = _
                  simp only [Act.put, List.setIfInBounds_toArray, List.set_cons_zero, List.set_cons_succ, i64_w, i32_w]
                  rfl
                refine one_ (i := 3) (N := some 68) #[true, true, true, true, false] rfl rfl (by kernel_rfl) (by decide) (fun K hK => ?_)
                refine goes_ Try.func39 (by kernel_rfl) rfl #[.agg #[.slice Ao33 t303.length co33, .slice Ao36 t306.length co36], .agg #[.slice Ao61 t319.length co61, .slice Ao62 t322.length co62]] (by rfl) rfl rfl (by (try simp only [List.map_toArray, List.map_cons, List.map_nil]); first | done | rfl | (simp only [List.length_drop, List.length_take]; rfl)) ?_
                with_reducible refine (laws_eqCalendar.calls kj17 _ _ t303 _ _ t306 _ _ t319 _ _ t322 true _ ?side1 ?side2 ?side3 ?side4 ?side5 ?side6 ?side7 ?side8 A52.out).mono ?_
                (case side1 => repeat (first | exact (Kd.R_reads' HO_310000.out).2.2 | (with_reducible refine Kd.C_alloc ?_ _) | (with_reducible refine Kd.C_drewN ?_ _) | (with_reducible refine Kd.C_drew ?_)))
                (case side2 => exact (Kd.R_reads' HO_310000.out).2.1)
                (case side3 => repeat (first | exact (Kd.R_reads' HO_310001.out).2.2 | (with_reducible refine Kd.C_alloc ?_ _) | (with_reducible refine Kd.C_drewN ?_ _) | (with_reducible refine Kd.C_drew ?_)))
                (case side4 => exact (Kd.R_reads' HO_310001.out).2.1)
                (case side5 => repeat (first | exact (Kd.R_reads' HO321.out).2.2 | (with_reducible refine Kd.C_alloc ?_ _) | (with_reducible refine Kd.C_drewN ?_ _) | (with_reducible refine Kd.C_drew ?_)))
                (case side6 => exact (Kd.R_reads' HO321.out).2.1)
                (case side7 => repeat (first | exact (Kd.R_reads' HO324.out).2.2 | (with_reducible refine Kd.C_alloc ?_ _) | (with_reducible refine Kd.C_drewN ?_ _) | (with_reducible refine Kd.C_drew ?_)))
                (case side8 => exact (Kd.R_reads' HO324.out).2.1)
                rintro e w63 ⟨rfl, hb⟩
                refine ⟨_, rfl, ?_⟩
                have n0_ := Aside0.mk (Kd.R_below (by (with_reducible repeat (first | apply Kd.R_alloc | apply Kd.R_drewN | apply Kd.R_drew)); exact HO_10.out) hb)
                have n1_ := Aside0.mk (Kd.R_below (by (with_reducible repeat (first | apply Kd.R_alloc | apply Kd.R_drewN | apply Kd.R_drew)); exact HO_12.out) hb)
                have n2_ := Aside0.mk (Kd.R_below (by (with_reducible repeat (first | apply Kd.R_alloc | apply Kd.R_drewN | apply Kd.R_drew)); exact HO_14.out) hb)
                have n3_ := Aside0.mk (Kd.R_below (by (with_reducible repeat (first | apply Kd.R_alloc | apply Kd.R_drewN | apply Kd.R_drew)); exact HO_310000.out) hb)
                have n4_ := Aside0.mk (Kd.R_below (by (with_reducible repeat (first | apply Kd.R_alloc | apply Kd.R_drewN | apply Kd.R_drew)); exact HO_310001.out) hb)
                have n5_ := Aside0.mk (Kd.R_below (by (with_reducible repeat (first | apply Kd.R_alloc | apply Kd.R_drewN | apply Kd.R_drew)); exact HO317.out) hb)
                have n6_ := Aside0.mk (Kd.R_below (by (with_reducible repeat (first | apply Kd.R_alloc | apply Kd.R_drewN | apply Kd.R_drew)); exact HO321.out) hb)
                have n7_ := Aside0.mk (Kd.R_below (by (with_reducible repeat (first | apply Kd.R_alloc | apply Kd.R_drewN | apply Kd.R_drew)); exact HO324.out) hb)
                have n8_ := Aside0.mk (blk_below (g := gb285) (o := .cells #[.slice A1_0 l1_0.length c1_0, .slice A1_1 l1_1.length c1_1] 45 (0, 0)) (by (with_reducible repeat (first | refine blk_drewN ?_ _ | refine blk_drew ?_ | refine blk_alloc ?_ _)); exact BK285.out) hb)
                have n9_ := Aside0.mk (blk_below (g := gb309) (o := .cells #[.slice Ao33 t303.length co33, .slice Ao36 t306.length co36] 48 (0, 0)) (by (with_reducible repeat (first | refine blk_drewN ?_ _ | refine blk_drew ?_ | refine blk_alloc ?_ _)); exact BK309.out) hb)
                have n10_ := Aside0.mk (below_step (by repeat (first | (with_reducible first | exact HB.out | apply below_alloc | apply pw_below_drewN | apply below_drew1 | refine below_set ?_ GE285.out | refine below_set ?_ GE309.out) | exact HB.out)) hb)
                clear HO_10
                clear HO_12
                clear HO_14
                clear HO_310000
                clear HO_310001
                clear HO317
                clear HO321
                clear HO324
                clear BK285
                clear BK309
                clear HB
                have HO_10 := n0_
                have HO_12 := n1_
                have HO_14 := n2_
                have HO_310000 := n3_
                have HO_310001 := n4_
                have HO317 := n5_
                have HO321 := n6_
                have HO324 := n7_
                have BK285 := n8_
                have BK309 := n9_
                have HB := n10_
                clear n0_ n1_ n2_ n3_ n4_ n5_ n6_ n7_ n8_ n9_ n10_
                (try clear hb)
                (try clear hb2)
                (try clear hk)
                (try clear hi)
                refine hK.out _ _ ⟨(blk_cell BK309.out 0).trans rfl, (blk_cell BK309.out 1).trans rfl, (blk_cell BK285.out 0).trans rfl, (blk_cell BK285.out 1).trans rfl⟩ (fun hHeld => ?_)
                clear hK K
                refine norm_ (a' := ?_) ?_ ?_
                rotate_left
                · show Act.put _ (some 68) _ = _
                  simp only [Act.put, List.setIfInBounds_toArray, List.set_cons_zero, List.set_cons_succ, i64_w, i32_w]
                  rfl
                refine pure_ (i := 4) (N := some 69) (v := ?_) (a' := ?_) #[true, true, true, true, true] rfl rfl (by kernel_rfl) (fun _ _ _ h => h) (Or.inl ⟨by rfl, ?_⟩) ?_ ?_
                rotate_left
                · intro w'
                  go_simp
                  with_reducible rfl
                rotate_left
                · simp only [Act.put, List.setIfInBounds_toArray, List.set_cons_zero, List.set_cons_succ, i64_w, i32_w]
                  rfl
                refine done_ (by kernel_rfl) ?_
                go_upto_region 20 with (first | ((with_reducible refine gate_callee (f := 33) rfl ?_); refine goesL_ (some 72) rfl rfl Try.func33 (by kernel_rfl) rfl #[.slice Ao37 t300.length co37, .int .i64 1] rfl (by (try simp only [List.map_toArray, List.map_cons, List.map_nil]); first | done | rfl | (simp only [List.length_drop, List.length_take]; rfl)) ?_; (with_reducible refine (laws_markIntS.calls kj17 (fun k_ => some k_ = (.slice Ao37 t300.length co37 : Value).ownBlock) (.slice Ao37 t300.length co37) t300 1 t326 t327 w _ ?side1 ?side2 A54.out).mono ?_); (case side1 => repeat (first | (with_reducible first | exact HB.out | apply below_alloc | apply pw_below_drewN | apply below_drew1 | refine below_set ?_ GE285.out | refine below_set ?_ GE309.out) | exact HB.out)); (case side2 => exact Kd.R_tight rfl HO_12.out); rintro e w64 ⟨rfl, hy0, hb, hkp⟩; refine ⟨_, rfl, ?_⟩; have n0_ := Aside0.mk (Kd.R_mono (ok' := fun k_ => some k_ ≠ (v311 : Value).ownBlock) (Kd.R_keptB ((Kd.R_apart' HO_10.out (Kd.R_typed HO_12.out) (by decide))) hkp (fun k_ hk_ hs_ => (by have h_ := hk_; (try simp only [and_assoc] at h_); first | exact (hk_.2) hs_ | exact h_.1 hs_ | exact h_.2.1 hs_ | exact h_.2.2.1 hs_ | exact h_.2.2.2.1 hs_ | exact h_.2.2.2.2.1 hs_ | exact h_.2.2.2.2.2.1 hs_ | exact h_.2.2.2.2.2.2.1 hs_ | exact h_.2.2.2.2.2.2.2.1 hs_ | exact h_.2.2.2.2.2.2.2.2.1 hs_ | exact h_.2 hs_ | exact h_.2.2 hs_ | exact h_.2.2.2 hs_ | exact h_.2.2.2.2 hs_ | exact h_.2.2.2.2.2 hs_ | exact h_.2.2.2.2.2.2 hs_ | exact h_.2.2.2.2.2.2.2 hs_ | exact h_.2.2.2.2.2.2.2.2 hs_))) (fun k_ hk_ => (by have h_ := hk_; (try simp only [and_assoc] at h_); first | exact hk_.1.1 | exact h_.1 | exact h_.2.1 | exact h_.2.2.1 | exact h_.2.2.2.1 | exact h_.2.2.2.2.1 | exact h_.2.2.2.2.2.1 | exact h_.2.2.2.2.2.2.1 | exact h_.2.2.2.2.2.2.2.1 | exact h_.2.2.2.2.2.2.2.2.1 | exact h_.2 | exact h_.2.2 | exact h_.2.2.2 | exact h_.2.2.2.2 | exact h_.2.2.2.2.2 | exact h_.2.2.2.2.2.2 | exact h_.2.2.2.2.2.2.2 | exact h_.2.2.2.2.2.2.2.2))); have n1_ := Aside0.mk (Kd.R_reok rfl hy0 (fun k_ e_ => HO_12.out.1 k_ e_)); have n2_ := Aside0.mk (Kd.R_mono (ok' := fun k_ => some k_ ≠ (v297 : Value).ownBlock) (Kd.R_keptB ((Kd.R_apart' HO_14.out (Kd.R_typed HO_12.out) (by decide))) hkp (fun k_ hk_ hs_ => (by have h_ := hk_; (try simp only [and_assoc] at h_); first | exact (hk_.2) hs_ | exact h_.1 hs_ | exact h_.2.1 hs_ | exact h_.2.2.1 hs_ | exact h_.2.2.2.1 hs_ | exact h_.2.2.2.2.1 hs_ | exact h_.2.2.2.2.2.1 hs_ | exact h_.2.2.2.2.2.2.1 hs_ | exact h_.2.2.2.2.2.2.2.1 hs_ | exact h_.2.2.2.2.2.2.2.2.1 hs_ | exact h_.2 hs_ | exact h_.2.2 hs_ | exact h_.2.2.2 hs_ | exact h_.2.2.2.2 hs_ | exact h_.2.2.2.2.2 hs_ | exact h_.2.2.2.2.2.2 hs_ | exact h_.2.2.2.2.2.2.2 hs_ | exact h_.2.2.2.2.2.2.2.2 hs_))) (fun k_ hk_ => (by have h_ := hk_; (try simp only [and_assoc] at h_); first | exact hk_.1.1 | exact h_.1 | exact h_.2.1 | exact h_.2.2.1 | exact h_.2.2.2.1 | exact h_.2.2.2.2.1 | exact h_.2.2.2.2.2.1 | exact h_.2.2.2.2.2.2.1 | exact h_.2.2.2.2.2.2.2.1 | exact h_.2.2.2.2.2.2.2.2.1 | exact h_.2 | exact h_.2.2 | exact h_.2.2.2 | exact h_.2.2.2.2 | exact h_.2.2.2.2.2 | exact h_.2.2.2.2.2.2 | exact h_.2.2.2.2.2.2.2 | exact h_.2.2.2.2.2.2.2.2))); have n3_ := Aside0.mk (Kd.R_mono (ok' := fun k_ => some k_ ≠ (.slice Ao37 t300.length co37 : Value).ownBlock ∧ some k_ ≠ (.slice Ao36 t306.length co36 : Value).ownBlock ∧ some k_ ≠ (.slice Ao58 t315.length co58 : Value).ownBlock ∧ some k_ ≠ (.slice Ao61 t319.length co61 : Value).ownBlock ∧ some k_ ≠ (.slice Ao62 t322.length co62 : Value).ownBlock) (Kd.R_keptB (HO_310000.out) hkp (fun k_ hk_ hs_ => (by have h_ := hk_; (try simp only [and_assoc] at h_); first | exact (hk_.1.1.1.1) hs_ | exact h_.1 hs_ | exact h_.2.1 hs_ | exact h_.2.2.1 hs_ | exact h_.2.2.2.1 hs_ | exact h_.2.2.2.2.1 hs_ | exact h_.2.2.2.2.2.1 hs_ | exact h_.2.2.2.2.2.2.1 hs_ | exact h_.2.2.2.2.2.2.2.1 hs_ | exact h_.2.2.2.2.2.2.2.2.1 hs_ | exact h_.2 hs_ | exact h_.2.2 hs_ | exact h_.2.2.2 hs_ | exact h_.2.2.2.2 hs_ | exact h_.2.2.2.2.2 hs_ | exact h_.2.2.2.2.2.2 hs_ | exact h_.2.2.2.2.2.2.2 hs_ | exact h_.2.2.2.2.2.2.2.2 hs_))) (fun k_ hk_ => ⟨(by have h_ := hk_; (try simp only [and_assoc] at h_); first | exact hk_.1.1.1.1.1 | exact h_.1 | exact h_.2.1 | exact h_.2.2.1 | exact h_.2.2.2.1 | exact h_.2.2.2.2.1 | exact h_.2.2.2.2.2.1 | exact h_.2.2.2.2.2.2.1 | exact h_.2.2.2.2.2.2.2.1 | exact h_.2.2.2.2.2.2.2.2.1 | exact h_.2 | exact h_.2.2 | exact h_.2.2.2 | exact h_.2.2.2.2 | exact h_.2.2.2.2.2 | exact h_.2.2.2.2.2.2 | exact h_.2.2.2.2.2.2.2 | exact h_.2.2.2.2.2.2.2.2), (by have h_ := hk_; (try simp only [and_assoc] at h_); first | exact hk_.1.1.1.1.2 | exact h_.1 | exact h_.2.1 | exact h_.2.2.1 | exact h_.2.2.2.1 | exact h_.2.2.2.2.1 | exact h_.2.2.2.2.2.1 | exact h_.2.2.2.2.2.2.1 | exact h_.2.2.2.2.2.2.2.1 | exact h_.2.2.2.2.2.2.2.2.1 | exact h_.2 | exact h_.2.2 | exact h_.2.2.2 | exact h_.2.2.2.2 | exact h_.2.2.2.2.2 | exact h_.2.2.2.2.2.2 | exact h_.2.2.2.2.2.2.2 | exact h_.2.2.2.2.2.2.2.2), (by have h_ := hk_; (try simp only [and_assoc] at h_); first | exact hk_.1.1.1.2 | exact h_.1 | exact h_.2.1 | exact h_.2.2.1 | exact h_.2.2.2.1 | exact h_.2.2.2.2.1 | exact h_.2.2.2.2.2.1 | exact h_.2.2.2.2.2.2.1 | exact h_.2.2.2.2.2.2.2.1 | exact h_.2.2.2.2.2.2.2.2.1 | exact h_.2 | exact h_.2.2 | exact h_.2.2.2 | exact h_.2.2.2.2 | exact h_.2.2.2.2.2 | exact h_.2.2.2.2.2.2 | exact h_.2.2.2.2.2.2.2 | exact h_.2.2.2.2.2.2.2.2), (by have h_ := hk_; (try simp only [and_assoc] at h_); first | exact hk_.1.1.2 | exact h_.1 | exact h_.2.1 | exact h_.2.2.1 | exact h_.2.2.2.1 | exact h_.2.2.2.2.1 | exact h_.2.2.2.2.2.1 | exact h_.2.2.2.2.2.2.1 | exact h_.2.2.2.2.2.2.2.1 | exact h_.2.2.2.2.2.2.2.2.1 | exact h_.2 | exact h_.2.2 | exact h_.2.2.2 | exact h_.2.2.2.2 | exact h_.2.2.2.2.2 | exact h_.2.2.2.2.2.2 | exact h_.2.2.2.2.2.2.2 | exact h_.2.2.2.2.2.2.2.2), (by have h_ := hk_; (try simp only [and_assoc] at h_); first | exact hk_.1.2 | exact h_.1 | exact h_.2.1 | exact h_.2.2.1 | exact h_.2.2.2.1 | exact h_.2.2.2.2.1 | exact h_.2.2.2.2.2.1 | exact h_.2.2.2.2.2.2.1 | exact h_.2.2.2.2.2.2.2.1 | exact h_.2.2.2.2.2.2.2.2.1 | exact h_.2 | exact h_.2.2 | exact h_.2.2.2 | exact h_.2.2.2.2 | exact h_.2.2.2.2.2 | exact h_.2.2.2.2.2.2 | exact h_.2.2.2.2.2.2.2 | exact h_.2.2.2.2.2.2.2.2)⟩)); have n4_ := Aside0.mk (Kd.R_mono (ok' := fun k_ => some k_ ≠ (.slice Ao37 t300.length co37 : Value).ownBlock ∧ some k_ ≠ (.slice Ao33 t303.length co33 : Value).ownBlock ∧ some k_ ≠ (.slice Ao58 t315.length co58 : Value).ownBlock ∧ some k_ ≠ (.slice Ao61 t319.length co61 : Value).ownBlock ∧ some k_ ≠ (.slice Ao62 t322.length co62 : Value).ownBlock) (Kd.R_keptB (HO_310001.out) hkp (fun k_ hk_ hs_ => (by have h_ := hk_; (try simp only [and_assoc] at h_); first | exact (hk_.1.1.1.1) hs_ | exact h_.1 hs_ | exact h_.2.1 hs_ | exact h_.2.2.1 hs_ | exact h_.2.2.2.1 hs_ | exact h_.2.2.2.2.1 hs_ | exact h_.2.2.2.2.2.1 hs_ | exact h_.2.2.2.2.2.2.1 hs_ | exact h_.2.2.2.2.2.2.2.1 hs_ | exact h_.2.2.2.2.2.2.2.2.1 hs_ | exact h_.2 hs_ | exact h_.2.2 hs_ | exact h_.2.2.2 hs_ | exact h_.2.2.2.2 hs_ | exact h_.2.2.2.2.2 hs_ | exact h_.2.2.2.2.2.2 hs_ | exact h_.2.2.2.2.2.2.2 hs_ | exact h_.2.2.2.2.2.2.2.2 hs_))) (fun k_ hk_ => ⟨(by have h_ := hk_; (try simp only [and_assoc] at h_); first | exact hk_.1.1.1.1.1 | exact h_.1 | exact h_.2.1 | exact h_.2.2.1 | exact h_.2.2.2.1 | exact h_.2.2.2.2.1 | exact h_.2.2.2.2.2.1 | exact h_.2.2.2.2.2.2.1 | exact h_.2.2.2.2.2.2.2.1 | exact h_.2.2.2.2.2.2.2.2.1 | exact h_.2 | exact h_.2.2 | exact h_.2.2.2 | exact h_.2.2.2.2 | exact h_.2.2.2.2.2 | exact h_.2.2.2.2.2.2 | exact h_.2.2.2.2.2.2.2 | exact h_.2.2.2.2.2.2.2.2), (by have h_ := hk_; (try simp only [and_assoc] at h_); first | exact hk_.1.1.1.1.2 | exact h_.1 | exact h_.2.1 | exact h_.2.2.1 | exact h_.2.2.2.1 | exact h_.2.2.2.2.1 | exact h_.2.2.2.2.2.1 | exact h_.2.2.2.2.2.2.1 | exact h_.2.2.2.2.2.2.2.1 | exact h_.2.2.2.2.2.2.2.2.1 | exact h_.2 | exact h_.2.2 | exact h_.2.2.2 | exact h_.2.2.2.2 | exact h_.2.2.2.2.2 | exact h_.2.2.2.2.2.2 | exact h_.2.2.2.2.2.2.2 | exact h_.2.2.2.2.2.2.2.2), (by have h_ := hk_; (try simp only [and_assoc] at h_); first | exact hk_.1.1.1.2 | exact h_.1 | exact h_.2.1 | exact h_.2.2.1 | exact h_.2.2.2.1 | exact h_.2.2.2.2.1 | exact h_.2.2.2.2.2.1 | exact h_.2.2.2.2.2.2.1 | exact h_.2.2.2.2.2.2.2.1 | exact h_.2.2.2.2.2.2.2.2.1 | exact h_.2 | exact h_.2.2 | exact h_.2.2.2 | exact h_.2.2.2.2 | exact h_.2.2.2.2.2 | exact h_.2.2.2.2.2.2 | exact h_.2.2.2.2.2.2.2 | exact h_.2.2.2.2.2.2.2.2), (by have h_ := hk_; (try simp only [and_assoc] at h_); first | exact hk_.1.1.2 | exact h_.1 | exact h_.2.1 | exact h_.2.2.1 | exact h_.2.2.2.1 | exact h_.2.2.2.2.1 | exact h_.2.2.2.2.2.1 | exact h_.2.2.2.2.2.2.1 | exact h_.2.2.2.2.2.2.2.1 | exact h_.2.2.2.2.2.2.2.2.1 | exact h_.2 | exact h_.2.2 | exact h_.2.2.2 | exact h_.2.2.2.2 | exact h_.2.2.2.2.2 | exact h_.2.2.2.2.2.2 | exact h_.2.2.2.2.2.2.2 | exact h_.2.2.2.2.2.2.2.2), (by have h_ := hk_; (try simp only [and_assoc] at h_); first | exact hk_.1.2 | exact h_.1 | exact h_.2.1 | exact h_.2.2.1 | exact h_.2.2.2.1 | exact h_.2.2.2.2.1 | exact h_.2.2.2.2.2.1 | exact h_.2.2.2.2.2.2.1 | exact h_.2.2.2.2.2.2.2.1 | exact h_.2.2.2.2.2.2.2.2.1 | exact h_.2 | exact h_.2.2 | exact h_.2.2.2 | exact h_.2.2.2.2 | exact h_.2.2.2.2.2 | exact h_.2.2.2.2.2.2 | exact h_.2.2.2.2.2.2.2 | exact h_.2.2.2.2.2.2.2.2)⟩)); have n5_ := Aside0.mk (blk_kept (by (with_reducible repeat (first | refine blk_drewN ?_ _ | refine blk_drew ?_ | refine blk_alloc ?_ _)); exact BK285.out) hkp (fun hs_ => (fun e_ => (Kd.R_ne HO_12.out BK285.out (by decide)) e_) hs_)); have n6_ := Aside0.mk (blk_kept (by (with_reducible repeat (first | refine blk_drewN ?_ _ | refine blk_drew ?_ | refine blk_alloc ?_ _)); exact BK309.out) hkp (fun hs_ => (fun e_ => (Kd.R_ne HO_12.out BK309.out (by decide)) e_) hs_)); have n7_ := Aside0.mk (Kd.R_mono (ok' := fun k_ => some k_ ≠ (.slice Ao37 t300.length co37 : Value).ownBlock ∧ some k_ ≠ (.slice Ao33 t303.length co33 : Value).ownBlock ∧ some k_ ≠ (.slice Ao36 t306.length co36 : Value).ownBlock ∧ some k_ ≠ (.slice Ao61 t319.length co61 : Value).ownBlock ∧ some k_ ≠ (.slice Ao62 t322.length co62 : Value).ownBlock) (Kd.R_keptB (HO317.out) hkp (fun k_ hk_ hs_ => (by have h_ := hk_; (try simp only [and_assoc] at h_); first | exact (hk_.1.1.1.1.2) hs_ | exact h_.1 hs_ | exact h_.2.1 hs_ | exact h_.2.2.1 hs_ | exact h_.2.2.2.1 hs_ | exact h_.2.2.2.2.1 hs_ | exact h_.2.2.2.2.2.1 hs_ | exact h_.2.2.2.2.2.2.1 hs_ | exact h_.2.2.2.2.2.2.2.1 hs_ | exact h_.2.2.2.2.2.2.2.2.1 hs_ | exact h_.2 hs_ | exact h_.2.2 hs_ | exact h_.2.2.2 hs_ | exact h_.2.2.2.2 hs_ | exact h_.2.2.2.2.2 hs_ | exact h_.2.2.2.2.2.2 hs_ | exact h_.2.2.2.2.2.2.2 hs_ | exact h_.2.2.2.2.2.2.2.2 hs_))) (fun k_ hk_ => ⟨(by have h_ := hk_; (try simp only [and_assoc] at h_); first | exact hk_.1.1.1.1.1.2 | exact h_.1 | exact h_.2.1 | exact h_.2.2.1 | exact h_.2.2.2.1 | exact h_.2.2.2.2.1 | exact h_.2.2.2.2.2.1 | exact h_.2.2.2.2.2.2.1 | exact h_.2.2.2.2.2.2.2.1 | exact h_.2.2.2.2.2.2.2.2.1 | exact h_.2 | exact h_.2.2 | exact h_.2.2.2 | exact h_.2.2.2.2 | exact h_.2.2.2.2.2 | exact h_.2.2.2.2.2.2 | exact h_.2.2.2.2.2.2.2 | exact h_.2.2.2.2.2.2.2.2), (by have h_ := hk_; (try simp only [and_assoc] at h_); first | exact hk_.1.1.1.1.2 | exact h_.1 | exact h_.2.1 | exact h_.2.2.1 | exact h_.2.2.2.1 | exact h_.2.2.2.2.1 | exact h_.2.2.2.2.2.1 | exact h_.2.2.2.2.2.2.1 | exact h_.2.2.2.2.2.2.2.1 | exact h_.2.2.2.2.2.2.2.2.1 | exact h_.2 | exact h_.2.2 | exact h_.2.2.2 | exact h_.2.2.2.2 | exact h_.2.2.2.2.2 | exact h_.2.2.2.2.2.2 | exact h_.2.2.2.2.2.2.2 | exact h_.2.2.2.2.2.2.2.2), (by have h_ := hk_; (try simp only [and_assoc] at h_); first | exact hk_.1.1.1.2 | exact h_.1 | exact h_.2.1 | exact h_.2.2.1 | exact h_.2.2.2.1 | exact h_.2.2.2.2.1 | exact h_.2.2.2.2.2.1 | exact h_.2.2.2.2.2.2.1 | exact h_.2.2.2.2.2.2.2.1 | exact h_.2.2.2.2.2.2.2.2.1 | exact h_.2 | exact h_.2.2 | exact h_.2.2.2 | exact h_.2.2.2.2 | exact h_.2.2.2.2.2 | exact h_.2.2.2.2.2.2 | exact h_.2.2.2.2.2.2.2 | exact h_.2.2.2.2.2.2.2.2), (by have h_ := hk_; (try simp only [and_assoc] at h_); first | exact hk_.1.1.2 | exact h_.1 | exact h_.2.1 | exact h_.2.2.1 | exact h_.2.2.2.1 | exact h_.2.2.2.2.1 | exact h_.2.2.2.2.2.1 | exact h_.2.2.2.2.2.2.1 | exact h_.2.2.2.2.2.2.2.1 | exact h_.2.2.2.2.2.2.2.2.1 | exact h_.2 | exact h_.2.2 | exact h_.2.2.2 | exact h_.2.2.2.2 | exact h_.2.2.2.2.2 | exact h_.2.2.2.2.2.2 | exact h_.2.2.2.2.2.2.2 | exact h_.2.2.2.2.2.2.2.2), (by have h_ := hk_; (try simp only [and_assoc] at h_); first | exact hk_.1.2 | exact h_.1 | exact h_.2.1 | exact h_.2.2.1 | exact h_.2.2.2.1 | exact h_.2.2.2.2.1 | exact h_.2.2.2.2.2.1 | exact h_.2.2.2.2.2.2.1 | exact h_.2.2.2.2.2.2.2.1 | exact h_.2.2.2.2.2.2.2.2.1 | exact h_.2 | exact h_.2.2 | exact h_.2.2.2 | exact h_.2.2.2.2 | exact h_.2.2.2.2.2 | exact h_.2.2.2.2.2.2 | exact h_.2.2.2.2.2.2.2 | exact h_.2.2.2.2.2.2.2.2)⟩)); have n8_ := Aside0.mk (Kd.R_mono (ok' := fun k_ => some k_ ≠ (.slice Ao37 t300.length co37 : Value).ownBlock ∧ some k_ ≠ (.slice Ao33 t303.length co33 : Value).ownBlock ∧ some k_ ≠ (.slice Ao36 t306.length co36 : Value).ownBlock ∧ some k_ ≠ (.slice Ao58 t315.length co58 : Value).ownBlock ∧ some k_ ≠ (.slice Ao62 t322.length co62 : Value).ownBlock) (Kd.R_keptB (HO321.out) hkp (fun k_ hk_ hs_ => (by have h_ := hk_; (try simp only [and_assoc] at h_); first | exact (hk_.1.1.1.2) hs_ | exact h_.1 hs_ | exact h_.2.1 hs_ | exact h_.2.2.1 hs_ | exact h_.2.2.2.1 hs_ | exact h_.2.2.2.2.1 hs_ | exact h_.2.2.2.2.2.1 hs_ | exact h_.2.2.2.2.2.2.1 hs_ | exact h_.2.2.2.2.2.2.2.1 hs_ | exact h_.2.2.2.2.2.2.2.2.1 hs_ | exact h_.2 hs_ | exact h_.2.2 hs_ | exact h_.2.2.2 hs_ | exact h_.2.2.2.2 hs_ | exact h_.2.2.2.2.2 hs_ | exact h_.2.2.2.2.2.2 hs_ | exact h_.2.2.2.2.2.2.2 hs_ | exact h_.2.2.2.2.2.2.2.2 hs_))) (fun k_ hk_ => ⟨(by have h_ := hk_; (try simp only [and_assoc] at h_); first | exact hk_.1.1.1.1.2 | exact h_.1 | exact h_.2.1 | exact h_.2.2.1 | exact h_.2.2.2.1 | exact h_.2.2.2.2.1 | exact h_.2.2.2.2.2.1 | exact h_.2.2.2.2.2.2.1 | exact h_.2.2.2.2.2.2.2.1 | exact h_.2.2.2.2.2.2.2.2.1 | exact h_.2 | exact h_.2.2 | exact h_.2.2.2 | exact h_.2.2.2.2 | exact h_.2.2.2.2.2 | exact h_.2.2.2.2.2.2 | exact h_.2.2.2.2.2.2.2 | exact h_.2.2.2.2.2.2.2.2), (by have h_ := hk_; (try simp only [and_assoc] at h_); first | exact hk_.1.1.1.2 | exact h_.1 | exact h_.2.1 | exact h_.2.2.1 | exact h_.2.2.2.1 | exact h_.2.2.2.2.1 | exact h_.2.2.2.2.2.1 | exact h_.2.2.2.2.2.2.1 | exact h_.2.2.2.2.2.2.2.1 | exact h_.2.2.2.2.2.2.2.2.1 | exact h_.2 | exact h_.2.2 | exact h_.2.2.2 | exact h_.2.2.2.2 | exact h_.2.2.2.2.2 | exact h_.2.2.2.2.2.2 | exact h_.2.2.2.2.2.2.2 | exact h_.2.2.2.2.2.2.2.2), (by have h_ := hk_; (try simp only [and_assoc] at h_); first | exact hk_.1.1.2 | exact h_.1 | exact h_.2.1 | exact h_.2.2.1 | exact h_.2.2.2.1 | exact h_.2.2.2.2.1 | exact h_.2.2.2.2.2.1 | exact h_.2.2.2.2.2.2.1 | exact h_.2.2.2.2.2.2.2.1 | exact h_.2.2.2.2.2.2.2.2.1 | exact h_.2 | exact h_.2.2 | exact h_.2.2.2 | exact h_.2.2.2.2 | exact h_.2.2.2.2.2 | exact h_.2.2.2.2.2.2 | exact h_.2.2.2.2.2.2.2 | exact h_.2.2.2.2.2.2.2.2), (by have h_ := hk_; (try simp only [and_assoc] at h_); first | exact hk_.1.2 | exact h_.1 | exact h_.2.1 | exact h_.2.2.1 | exact h_.2.2.2.1 | exact h_.2.2.2.2.1 | exact h_.2.2.2.2.2.1 | exact h_.2.2.2.2.2.2.1 | exact h_.2.2.2.2.2.2.2.1 | exact h_.2.2.2.2.2.2.2.2.1 | exact h_.2 | exact h_.2.2 | exact h_.2.2.2 | exact h_.2.2.2.2 | exact h_.2.2.2.2.2 | exact h_.2.2.2.2.2.2 | exact h_.2.2.2.2.2.2.2 | exact h_.2.2.2.2.2.2.2.2), (by have h_ := hk_; (try simp only [and_assoc] at h_); first | exact hk_.1.1.1.1.1 | exact h_.1 | exact h_.2.1 | exact h_.2.2.1 | exact h_.2.2.2.1 | exact h_.2.2.2.2.1 | exact h_.2.2.2.2.2.1 | exact h_.2.2.2.2.2.2.1 | exact h_.2.2.2.2.2.2.2.1 | exact h_.2.2.2.2.2.2.2.2.1 | exact h_.2 | exact h_.2.2 | exact h_.2.2.2 | exact h_.2.2.2.2 | exact h_.2.2.2.2.2 | exact h_.2.2.2.2.2.2 | exact h_.2.2.2.2.2.2.2 | exact h_.2.2.2.2.2.2.2.2)⟩)); have n9_ := Aside0.mk (Kd.R_mono (ok' := fun k_ => some k_ ≠ (.slice Ao37 t300.length co37 : Value).ownBlock ∧ some k_ ≠ (.slice Ao33 t303.length co33 : Value).ownBlock ∧ some k_ ≠ (.slice Ao36 t306.length co36 : Value).ownBlock ∧ some k_ ≠ (.slice Ao58 t315.length co58 : Value).ownBlock ∧ some k_ ≠ (.slice Ao61 t319.length co61 : Value).ownBlock) (Kd.R_keptB (HO324.out) hkp (fun k_ hk_ hs_ => (by have h_ := hk_; (try simp only [and_assoc] at h_); first | exact (hk_.1.1.1.2) hs_ | exact h_.1 hs_ | exact h_.2.1 hs_ | exact h_.2.2.1 hs_ | exact h_.2.2.2.1 hs_ | exact h_.2.2.2.2.1 hs_ | exact h_.2.2.2.2.2.1 hs_ | exact h_.2.2.2.2.2.2.1 hs_ | exact h_.2.2.2.2.2.2.2.1 hs_ | exact h_.2.2.2.2.2.2.2.2.1 hs_ | exact h_.2 hs_ | exact h_.2.2 hs_ | exact h_.2.2.2 hs_ | exact h_.2.2.2.2 hs_ | exact h_.2.2.2.2.2 hs_ | exact h_.2.2.2.2.2.2 hs_ | exact h_.2.2.2.2.2.2.2 hs_ | exact h_.2.2.2.2.2.2.2.2 hs_))) (fun k_ hk_ => ⟨(by have h_ := hk_; (try simp only [and_assoc] at h_); first | exact hk_.1.1.1.1.2 | exact h_.1 | exact h_.2.1 | exact h_.2.2.1 | exact h_.2.2.2.1 | exact h_.2.2.2.2.1 | exact h_.2.2.2.2.2.1 | exact h_.2.2.2.2.2.2.1 | exact h_.2.2.2.2.2.2.2.1 | exact h_.2.2.2.2.2.2.2.2.1 | exact h_.2 | exact h_.2.2 | exact h_.2.2.2 | exact h_.2.2.2.2 | exact h_.2.2.2.2.2 | exact h_.2.2.2.2.2.2 | exact h_.2.2.2.2.2.2.2 | exact h_.2.2.2.2.2.2.2.2), (by have h_ := hk_; (try simp only [and_assoc] at h_); first | exact hk_.1.1.1.2 | exact h_.1 | exact h_.2.1 | exact h_.2.2.1 | exact h_.2.2.2.1 | exact h_.2.2.2.2.1 | exact h_.2.2.2.2.2.1 | exact h_.2.2.2.2.2.2.1 | exact h_.2.2.2.2.2.2.2.1 | exact h_.2.2.2.2.2.2.2.2.1 | exact h_.2 | exact h_.2.2 | exact h_.2.2.2 | exact h_.2.2.2.2 | exact h_.2.2.2.2.2 | exact h_.2.2.2.2.2.2 | exact h_.2.2.2.2.2.2.2 | exact h_.2.2.2.2.2.2.2.2), (by have h_ := hk_; (try simp only [and_assoc] at h_); first | exact hk_.1.1.2 | exact h_.1 | exact h_.2.1 | exact h_.2.2.1 | exact h_.2.2.2.1 | exact h_.2.2.2.2.1 | exact h_.2.2.2.2.2.1 | exact h_.2.2.2.2.2.2.1 | exact h_.2.2.2.2.2.2.2.1 | exact h_.2.2.2.2.2.2.2.2.1 | exact h_.2 | exact h_.2.2 | exact h_.2.2.2 | exact h_.2.2.2.2 | exact h_.2.2.2.2.2 | exact h_.2.2.2.2.2.2 | exact h_.2.2.2.2.2.2.2 | exact h_.2.2.2.2.2.2.2.2), (by have h_ := hk_; (try simp only [and_assoc] at h_); first | exact hk_.1.2 | exact h_.1 | exact h_.2.1 | exact h_.2.2.1 | exact h_.2.2.2.1 | exact h_.2.2.2.2.1 | exact h_.2.2.2.2.2.1 | exact h_.2.2.2.2.2.2.1 | exact h_.2.2.2.2.2.2.2.1 | exact h_.2.2.2.2.2.2.2.2.1 | exact h_.2 | exact h_.2.2 | exact h_.2.2.2 | exact h_.2.2.2.2 | exact h_.2.2.2.2.2 | exact h_.2.2.2.2.2.2 | exact h_.2.2.2.2.2.2.2 | exact h_.2.2.2.2.2.2.2.2), (by have h_ := hk_; (try simp only [and_assoc] at h_); first | exact hk_.1.1.1.1.1 | exact h_.1 | exact h_.2.1 | exact h_.2.2.1 | exact h_.2.2.2.1 | exact h_.2.2.2.2.1 | exact h_.2.2.2.2.2.1 | exact h_.2.2.2.2.2.2.1 | exact h_.2.2.2.2.2.2.2.1 | exact h_.2.2.2.2.2.2.2.2.1 | exact h_.2 | exact h_.2.2 | exact h_.2.2.2 | exact h_.2.2.2.2 | exact h_.2.2.2.2.2 | exact h_.2.2.2.2.2.2 | exact h_.2.2.2.2.2.2.2 | exact h_.2.2.2.2.2.2.2.2)⟩)); have n10_ := Aside0.mk (hb); clear HO_10; clear HO_12; clear HO_14; clear HO_310000; clear HO_310001; clear BK285; clear BK309; clear HO317; clear HO321; clear HO324; clear HB; have HO_10 := n0_; have HO_12 := n1_; have HO_14 := n2_; have HO_310000 := n3_; have HO_310001 := n4_; have BK285 := n5_; have BK309 := n6_; have HO317 := n7_; have HO321 := n8_; have HO324 := n9_; have HB := n10_; clear n0_ n1_ n2_ n3_ n4_ n5_ n6_ n7_ n8_ n9_ n10_; (try clear hb); (try clear hkp); (try clear hy0); have hnb65 := NB309_285.out; have hnc65 := NB285_309.out; have hcz66_0 : w64.cell? ⟨gb309, 0, none⟩ = some (.slice Ao33 t303.length co33) := (blk_cell BK309.out 0).trans rfl; have hcz66_1 : w64.cell? ⟨gb309, 1, none⟩ = some (.slice Ao36 t306.length co36) := (blk_cell BK309.out 1).trans rfl; have hfz66_0 := blk_frozen BK309.out 0; have hfz66_1 := blk_frozen BK309.out 1) | ((with_reducible refine gate_callee (f := 40) rfl ?_); refine goesL_ (some 75) rfl rfl Try.func40 (by kernel_rfl) rfl #[.agg #[.slice Ao33 t303.length co33, .slice Ao36 t306.length co36], .int .i64 t326] rfl (by (try simp only [List.map_toArray, List.map_cons, List.map_nil]); first | done | rfl | (simp only [List.length_drop, List.length_take]; rfl)) ?_; (with_reducible refine (laws_markCalendar.calls kj17 (fun k_ => some k_ = (.slice Ao33 t303.length co33 : Value).ownBlock) (.slice Ao33 t303.length co33) t303 (fun k_ => some k_ = (.slice Ao36 t306.length co36 : Value).ownBlock) (.slice Ao36 t306.length co36) t306 t326 t328 t329 t330 w _ ?side1 ?side2 ?side3 ?side4 ?side5 A55.out).mono ?_); (case side1 => repeat (first | (with_reducible first | exact HB.out | apply below_alloc | apply pw_below_drewN | apply below_drew1 | refine below_set ?_ GE285.out | refine below_set ?_ GE309.out) | exact HB.out)); (case side2 => exact Kd.R_tight rfl HO_310000.out); (case side3 => exact fun k_ e_ => (HO_310000.out.1 k_ e_.symm).2.1); (case side4 => exact Kd.R_tight rfl HO_310001.out); (case side5 => exact fun k_ e_ => (HO_310001.out.1 k_ e_.symm).2.1); rintro e w67 ⟨rfl, hy0, hy1, hb, hkp⟩; refine ⟨_, rfl, ?_⟩; have n0_ := Aside0.mk (Kd.R_mono (ok' := fun k_ => some k_ ≠ (v311 : Value).ownBlock) (Kd.R_keptB ((Kd.R_apart' (Kd.R_apart' HO_10.out (Kd.R_typed HO_310000.out) (by decide)) (Kd.R_typed HO_310001.out) (by decide))) hkp (fun k_ hk_ hs_ => Or.elim hs_ (fun e_ => (by have h_ := hk_; (try simp only [and_assoc] at h_); first | exact (hk_.1.2) e_ | exact h_.1 e_ | exact h_.2.1 e_ | exact h_.2.2.1 e_ | exact h_.2.2.2.1 e_ | exact h_.2.2.2.2.1 e_ | exact h_.2.2.2.2.2.1 e_ | exact h_.2.2.2.2.2.2.1 e_ | exact h_.2.2.2.2.2.2.2.1 e_ | exact h_.2.2.2.2.2.2.2.2.1 e_ | exact h_.2 e_ | exact h_.2.2 e_ | exact h_.2.2.2 e_ | exact h_.2.2.2.2 e_ | exact h_.2.2.2.2.2 e_ | exact h_.2.2.2.2.2.2 e_ | exact h_.2.2.2.2.2.2.2 e_ | exact h_.2.2.2.2.2.2.2.2 e_)) (fun e_ => (by have h_ := hk_; (try simp only [and_assoc] at h_); first | exact (hk_.2) e_ | exact h_.1 e_ | exact h_.2.1 e_ | exact h_.2.2.1 e_ | exact h_.2.2.2.1 e_ | exact h_.2.2.2.2.1 e_ | exact h_.2.2.2.2.2.1 e_ | exact h_.2.2.2.2.2.2.1 e_ | exact h_.2.2.2.2.2.2.2.1 e_ | exact h_.2.2.2.2.2.2.2.2.1 e_ | exact h_.2 e_ | exact h_.2.2 e_ | exact h_.2.2.2 e_ | exact h_.2.2.2.2 e_ | exact h_.2.2.2.2.2 e_ | exact h_.2.2.2.2.2.2 e_ | exact h_.2.2.2.2.2.2.2 e_ | exact h_.2.2.2.2.2.2.2.2 e_)))) (fun k_ hk_ => (by have h_ := hk_; (try simp only [and_assoc] at h_); first | exact hk_.1.1.1 | exact h_.1 | exact h_.2.1 | exact h_.2.2.1 | exact h_.2.2.2.1 | exact h_.2.2.2.2.1 | exact h_.2.2.2.2.2.1 | exact h_.2.2.2.2.2.2.1 | exact h_.2.2.2.2.2.2.2.1 | exact h_.2.2.2.2.2.2.2.2.1 | exact h_.2 | exact h_.2.2 | exact h_.2.2.2 | exact h_.2.2.2.2 | exact h_.2.2.2.2.2 | exact h_.2.2.2.2.2.2 | exact h_.2.2.2.2.2.2.2 | exact h_.2.2.2.2.2.2.2.2))); have n1_ := Aside0.mk (Kd.R_mono (ok' := fun k_ => some k_ ≠ (.slice Ao33 t303.length co33 : Value).ownBlock ∧ some k_ ≠ (.slice Ao36 t306.length co36 : Value).ownBlock ∧ some k_ ≠ (.slice Ao58 t315.length co58 : Value).ownBlock ∧ some k_ ≠ (.slice Ao61 t319.length co61 : Value).ownBlock ∧ some k_ ≠ (.slice Ao62 t322.length co62 : Value).ownBlock) (Kd.R_keptB (HO_12.out) hkp (fun k_ hk_ hs_ => Or.elim hs_ (fun e_ => (by have h_ := hk_; (try simp only [and_assoc] at h_); first | exact (hk_.1.1.1.1) e_ | exact h_.1 e_ | exact h_.2.1 e_ | exact h_.2.2.1 e_ | exact h_.2.2.2.1 e_ | exact h_.2.2.2.2.1 e_ | exact h_.2.2.2.2.2.1 e_ | exact h_.2.2.2.2.2.2.1 e_ | exact h_.2.2.2.2.2.2.2.1 e_ | exact h_.2.2.2.2.2.2.2.2.1 e_ | exact h_.2 e_ | exact h_.2.2 e_ | exact h_.2.2.2 e_ | exact h_.2.2.2.2 e_ | exact h_.2.2.2.2.2 e_ | exact h_.2.2.2.2.2.2 e_ | exact h_.2.2.2.2.2.2.2 e_ | exact h_.2.2.2.2.2.2.2.2 e_)) (fun e_ => (by have h_ := hk_; (try simp only [and_assoc] at h_); first | exact (hk_.1.1.1.2) e_ | exact h_.1 e_ | exact h_.2.1 e_ | exact h_.2.2.1 e_ | exact h_.2.2.2.1 e_ | exact h_.2.2.2.2.1 e_ | exact h_.2.2.2.2.2.1 e_ | exact h_.2.2.2.2.2.2.1 e_ | exact h_.2.2.2.2.2.2.2.1 e_ | exact h_.2.2.2.2.2.2.2.2.1 e_ | exact h_.2 e_ | exact h_.2.2 e_ | exact h_.2.2.2 e_ | exact h_.2.2.2.2 e_ | exact h_.2.2.2.2.2 e_ | exact h_.2.2.2.2.2.2 e_ | exact h_.2.2.2.2.2.2.2 e_ | exact h_.2.2.2.2.2.2.2.2 e_)))) (fun k_ hk_ => ⟨(by have h_ := hk_; (try simp only [and_assoc] at h_); first | exact hk_.1.1.1.1.1 | exact h_.1 | exact h_.2.1 | exact h_.2.2.1 | exact h_.2.2.2.1 | exact h_.2.2.2.2.1 | exact h_.2.2.2.2.2.1 | exact h_.2.2.2.2.2.2.1 | exact h_.2.2.2.2.2.2.2.1 | exact h_.2.2.2.2.2.2.2.2.1 | exact h_.2 | exact h_.2.2 | exact h_.2.2.2 | exact h_.2.2.2.2 | exact h_.2.2.2.2.2 | exact h_.2.2.2.2.2.2 | exact h_.2.2.2.2.2.2.2 | exact h_.2.2.2.2.2.2.2.2), (by have h_ := hk_; (try simp only [and_assoc] at h_); first | exact hk_.1.1.1.1.2 | exact h_.1 | exact h_.2.1 | exact h_.2.2.1 | exact h_.2.2.2.1 | exact h_.2.2.2.2.1 | exact h_.2.2.2.2.2.1 | exact h_.2.2.2.2.2.2.1 | exact h_.2.2.2.2.2.2.2.1 | exact h_.2.2.2.2.2.2.2.2.1 | exact h_.2 | exact h_.2.2 | exact h_.2.2.2 | exact h_.2.2.2.2 | exact h_.2.2.2.2.2 | exact h_.2.2.2.2.2.2 | exact h_.2.2.2.2.2.2.2 | exact h_.2.2.2.2.2.2.2.2), (by have h_ := hk_; (try simp only [and_assoc] at h_); first | exact hk_.1.1.1.2 | exact h_.1 | exact h_.2.1 | exact h_.2.2.1 | exact h_.2.2.2.1 | exact h_.2.2.2.2.1 | exact h_.2.2.2.2.2.1 | exact h_.2.2.2.2.2.2.1 | exact h_.2.2.2.2.2.2.2.1 | exact h_.2.2.2.2.2.2.2.2.1 | exact h_.2 | exact h_.2.2 | exact h_.2.2.2 | exact h_.2.2.2.2 | exact h_.2.2.2.2.2 | exact h_.2.2.2.2.2.2 | exact h_.2.2.2.2.2.2.2 | exact h_.2.2.2.2.2.2.2.2), (by have h_ := hk_; (try simp only [and_assoc] at h_); first | exact hk_.1.1.2 | exact h_.1 | exact h_.2.1 | exact h_.2.2.1 | exact h_.2.2.2.1 | exact h_.2.2.2.2.1 | exact h_.2.2.2.2.2.1 | exact h_.2.2.2.2.2.2.1 | exact h_.2.2.2.2.2.2.2.1 | exact h_.2.2.2.2.2.2.2.2.1 | exact h_.2 | exact h_.2.2 | exact h_.2.2.2 | exact h_.2.2.2.2 | exact h_.2.2.2.2.2 | exact h_.2.2.2.2.2.2 | exact h_.2.2.2.2.2.2.2 | exact h_.2.2.2.2.2.2.2.2), (by have h_ := hk_; (try simp only [and_assoc] at h_); first | exact hk_.1.2 | exact h_.1 | exact h_.2.1 | exact h_.2.2.1 | exact h_.2.2.2.1 | exact h_.2.2.2.2.1 | exact h_.2.2.2.2.2.1 | exact h_.2.2.2.2.2.2.1 | exact h_.2.2.2.2.2.2.2.1 | exact h_.2.2.2.2.2.2.2.2.1 | exact h_.2 | exact h_.2.2 | exact h_.2.2.2 | exact h_.2.2.2.2 | exact h_.2.2.2.2.2 | exact h_.2.2.2.2.2.2 | exact h_.2.2.2.2.2.2.2 | exact h_.2.2.2.2.2.2.2.2)⟩)); have n2_ := Aside0.mk (Kd.R_mono (ok' := fun k_ => some k_ ≠ (v297 : Value).ownBlock) (Kd.R_keptB ((Kd.R_apart' (Kd.R_apart' HO_14.out (Kd.R_typed HO_310000.out) (by decide)) (Kd.R_typed HO_310001.out) (by decide))) hkp (fun k_ hk_ hs_ => Or.elim hs_ (fun e_ => (by have h_ := hk_; (try simp only [and_assoc] at h_); first | exact (hk_.1.2) e_ | exact h_.1 e_ | exact h_.2.1 e_ | exact h_.2.2.1 e_ | exact h_.2.2.2.1 e_ | exact h_.2.2.2.2.1 e_ | exact h_.2.2.2.2.2.1 e_ | exact h_.2.2.2.2.2.2.1 e_ | exact h_.2.2.2.2.2.2.2.1 e_ | exact h_.2.2.2.2.2.2.2.2.1 e_ | exact h_.2 e_ | exact h_.2.2 e_ | exact h_.2.2.2 e_ | exact h_.2.2.2.2 e_ | exact h_.2.2.2.2.2 e_ | exact h_.2.2.2.2.2.2 e_ | exact h_.2.2.2.2.2.2.2 e_ | exact h_.2.2.2.2.2.2.2.2 e_)) (fun e_ => (by have h_ := hk_; (try simp only [and_assoc] at h_); first | exact (hk_.2) e_ | exact h_.1 e_ | exact h_.2.1 e_ | exact h_.2.2.1 e_ | exact h_.2.2.2.1 e_ | exact h_.2.2.2.2.1 e_ | exact h_.2.2.2.2.2.1 e_ | exact h_.2.2.2.2.2.2.1 e_ | exact h_.2.2.2.2.2.2.2.1 e_ | exact h_.2.2.2.2.2.2.2.2.1 e_ | exact h_.2 e_ | exact h_.2.2 e_ | exact h_.2.2.2 e_ | exact h_.2.2.2.2 e_ | exact h_.2.2.2.2.2 e_ | exact h_.2.2.2.2.2.2 e_ | exact h_.2.2.2.2.2.2.2 e_ | exact h_.2.2.2.2.2.2.2.2 e_)))) (fun k_ hk_ => (by have h_ := hk_; (try simp only [and_assoc] at h_); first | exact hk_.1.1.1 | exact h_.1 | exact h_.2.1 | exact h_.2.2.1 | exact h_.2.2.2.1 | exact h_.2.2.2.2.1 | exact h_.2.2.2.2.2.1 | exact h_.2.2.2.2.2.2.1 | exact h_.2.2.2.2.2.2.2.1 | exact h_.2.2.2.2.2.2.2.2.1 | exact h_.2 | exact h_.2.2 | exact h_.2.2.2 | exact h_.2.2.2.2 | exact h_.2.2.2.2.2 | exact h_.2.2.2.2.2.2 | exact h_.2.2.2.2.2.2.2 | exact h_.2.2.2.2.2.2.2.2))); have n3_ := Aside0.mk (Kd.R_reok rfl hy0 (fun k_ e_ => HO_310000.out.1 k_ e_)); have n4_ := Aside0.mk (Kd.R_reok rfl hy1 (fun k_ e_ => HO_310001.out.1 k_ e_)); have n5_ := Aside0.mk (blk_kept (by (with_reducible repeat (first | refine blk_drewN ?_ _ | refine blk_drew ?_ | refine blk_alloc ?_ _)); exact BK285.out) hkp (fun hs_ => Or.elim hs_ (fun e_ => (fun e_ => (Kd.R_ne HO_310000.out BK285.out (by decide)) e_) e_) (fun e_ => (fun e_ => (Kd.R_ne HO_310001.out BK285.out (by decide)) e_) e_))); have n6_ := Aside0.mk (blk_kept (by (with_reducible repeat (first | refine blk_drewN ?_ _ | refine blk_drew ?_ | refine blk_alloc ?_ _)); exact BK309.out) hkp (fun hs_ => Or.elim hs_ (fun e_ => (fun e_ => (Kd.R_ne HO_310000.out BK309.out (by decide)) e_) e_) (fun e_ => (fun e_ => (Kd.R_ne HO_310001.out BK309.out (by decide)) e_) e_))); have n7_ := Aside0.mk (Kd.R_mono (ok' := fun k_ => some k_ ≠ (.slice Ao37 t300.length co37 : Value).ownBlock ∧ some k_ ≠ (.slice Ao33 t303.length co33 : Value).ownBlock ∧ some k_ ≠ (.slice Ao36 t306.length co36 : Value).ownBlock ∧ some k_ ≠ (.slice Ao61 t319.length co61 : Value).ownBlock ∧ some k_ ≠ (.slice Ao62 t322.length co62 : Value).ownBlock) (Kd.R_keptB (HO317.out) hkp (fun k_ hk_ hs_ => Or.elim hs_ (fun e_ => (by have h_ := hk_; (try simp only [and_assoc] at h_); first | exact (hk_.2.1) e_ | exact h_.1 e_ | exact h_.2.1 e_ | exact h_.2.2.1 e_ | exact h_.2.2.2.1 e_ | exact h_.2.2.2.2.1 e_ | exact h_.2.2.2.2.2.1 e_ | exact h_.2.2.2.2.2.2.1 e_ | exact h_.2.2.2.2.2.2.2.1 e_ | exact h_.2.2.2.2.2.2.2.2.1 e_ | exact h_.2 e_ | exact h_.2.2 e_ | exact h_.2.2.2 e_ | exact h_.2.2.2.2 e_ | exact h_.2.2.2.2.2 e_ | exact h_.2.2.2.2.2.2 e_ | exact h_.2.2.2.2.2.2.2 e_ | exact h_.2.2.2.2.2.2.2.2 e_)) (fun e_ => (by have h_ := hk_; (try simp only [and_assoc] at h_); first | exact (hk_.2.2.1) e_ | exact h_.1 e_ | exact h_.2.1 e_ | exact h_.2.2.1 e_ | exact h_.2.2.2.1 e_ | exact h_.2.2.2.2.1 e_ | exact h_.2.2.2.2.2.1 e_ | exact h_.2.2.2.2.2.2.1 e_ | exact h_.2.2.2.2.2.2.2.1 e_ | exact h_.2.2.2.2.2.2.2.2.1 e_ | exact h_.2 e_ | exact h_.2.2 e_ | exact h_.2.2.2 e_ | exact h_.2.2.2.2 e_ | exact h_.2.2.2.2.2 e_ | exact h_.2.2.2.2.2.2 e_ | exact h_.2.2.2.2.2.2.2 e_ | exact h_.2.2.2.2.2.2.2.2 e_)))) (fun k_ hk_ => ⟨(by have h_ := hk_; (try simp only [and_assoc] at h_); first | exact hk_.1.1 | exact h_.1 | exact h_.2.1 | exact h_.2.2.1 | exact h_.2.2.2.1 | exact h_.2.2.2.2.1 | exact h_.2.2.2.2.2.1 | exact h_.2.2.2.2.2.2.1 | exact h_.2.2.2.2.2.2.2.1 | exact h_.2.2.2.2.2.2.2.2.1 | exact h_.2 | exact h_.2.2 | exact h_.2.2.2 | exact h_.2.2.2.2 | exact h_.2.2.2.2.2 | exact h_.2.2.2.2.2.2 | exact h_.2.2.2.2.2.2.2 | exact h_.2.2.2.2.2.2.2.2), (by have h_ := hk_; (try simp only [and_assoc] at h_); first | exact hk_.1.2.1 | exact h_.1 | exact h_.2.1 | exact h_.2.2.1 | exact h_.2.2.2.1 | exact h_.2.2.2.2.1 | exact h_.2.2.2.2.2.1 | exact h_.2.2.2.2.2.2.1 | exact h_.2.2.2.2.2.2.2.1 | exact h_.2.2.2.2.2.2.2.2.1 | exact h_.2 | exact h_.2.2 | exact h_.2.2.2 | exact h_.2.2.2.2 | exact h_.2.2.2.2.2 | exact h_.2.2.2.2.2.2 | exact h_.2.2.2.2.2.2.2 | exact h_.2.2.2.2.2.2.2.2), (by have h_ := hk_; (try simp only [and_assoc] at h_); first | exact hk_.1.2.2.1 | exact h_.1 | exact h_.2.1 | exact h_.2.2.1 | exact h_.2.2.2.1 | exact h_.2.2.2.2.1 | exact h_.2.2.2.2.2.1 | exact h_.2.2.2.2.2.2.1 | exact h_.2.2.2.2.2.2.2.1 | exact h_.2.2.2.2.2.2.2.2.1 | exact h_.2 | exact h_.2.2 | exact h_.2.2.2 | exact h_.2.2.2.2 | exact h_.2.2.2.2.2 | exact h_.2.2.2.2.2.2 | exact h_.2.2.2.2.2.2.2 | exact h_.2.2.2.2.2.2.2.2), (by have h_ := hk_; (try simp only [and_assoc] at h_); first | exact hk_.1.2.2.2.1 | exact h_.1 | exact h_.2.1 | exact h_.2.2.1 | exact h_.2.2.2.1 | exact h_.2.2.2.2.1 | exact h_.2.2.2.2.2.1 | exact h_.2.2.2.2.2.2.1 | exact h_.2.2.2.2.2.2.2.1 | exact h_.2.2.2.2.2.2.2.2.1 | exact h_.2 | exact h_.2.2 | exact h_.2.2.2 | exact h_.2.2.2.2 | exact h_.2.2.2.2.2 | exact h_.2.2.2.2.2.2 | exact h_.2.2.2.2.2.2.2 | exact h_.2.2.2.2.2.2.2.2), (by have h_ := hk_; (try simp only [and_assoc] at h_); first | exact hk_.1.2.2.2.2 | exact h_.1 | exact h_.2.1 | exact h_.2.2.1 | exact h_.2.2.2.1 | exact h_.2.2.2.2.1 | exact h_.2.2.2.2.2.1 | exact h_.2.2.2.2.2.2.1 | exact h_.2.2.2.2.2.2.2.1 | exact h_.2.2.2.2.2.2.2.2.1 | exact h_.2 | exact h_.2.2 | exact h_.2.2.2 | exact h_.2.2.2.2 | exact h_.2.2.2.2.2 | exact h_.2.2.2.2.2.2 | exact h_.2.2.2.2.2.2.2 | exact h_.2.2.2.2.2.2.2.2)⟩)); have n8_ := Aside0.mk (Kd.R_mono (ok' := fun k_ => some k_ ≠ (.slice Ao37 t300.length co37 : Value).ownBlock ∧ some k_ ≠ (.slice Ao33 t303.length co33 : Value).ownBlock ∧ some k_ ≠ (.slice Ao36 t306.length co36 : Value).ownBlock ∧ some k_ ≠ (.slice Ao58 t315.length co58 : Value).ownBlock ∧ some k_ ≠ (.slice Ao62 t322.length co62 : Value).ownBlock) (Kd.R_keptB (HO321.out) hkp (fun k_ hk_ hs_ => Or.elim hs_ (fun e_ => (by have h_ := hk_; (try simp only [and_assoc] at h_); first | exact (hk_.2.1) e_ | exact h_.1 e_ | exact h_.2.1 e_ | exact h_.2.2.1 e_ | exact h_.2.2.2.1 e_ | exact h_.2.2.2.2.1 e_ | exact h_.2.2.2.2.2.1 e_ | exact h_.2.2.2.2.2.2.1 e_ | exact h_.2.2.2.2.2.2.2.1 e_ | exact h_.2.2.2.2.2.2.2.2.1 e_ | exact h_.2 e_ | exact h_.2.2 e_ | exact h_.2.2.2 e_ | exact h_.2.2.2.2 e_ | exact h_.2.2.2.2.2 e_ | exact h_.2.2.2.2.2.2 e_ | exact h_.2.2.2.2.2.2.2 e_ | exact h_.2.2.2.2.2.2.2.2 e_)) (fun e_ => (by have h_ := hk_; (try simp only [and_assoc] at h_); first | exact (hk_.2.2.1) e_ | exact h_.1 e_ | exact h_.2.1 e_ | exact h_.2.2.1 e_ | exact h_.2.2.2.1 e_ | exact h_.2.2.2.2.1 e_ | exact h_.2.2.2.2.2.1 e_ | exact h_.2.2.2.2.2.2.1 e_ | exact h_.2.2.2.2.2.2.2.1 e_ | exact h_.2.2.2.2.2.2.2.2.1 e_ | exact h_.2 e_ | exact h_.2.2 e_ | exact h_.2.2.2 e_ | exact h_.2.2.2.2 e_ | exact h_.2.2.2.2.2 e_ | exact h_.2.2.2.2.2.2 e_ | exact h_.2.2.2.2.2.2.2 e_ | exact h_.2.2.2.2.2.2.2.2 e_)))) (fun k_ hk_ => ⟨(by have h_ := hk_; (try simp only [and_assoc] at h_); first | exact hk_.1.1 | exact h_.1 | exact h_.2.1 | exact h_.2.2.1 | exact h_.2.2.2.1 | exact h_.2.2.2.2.1 | exact h_.2.2.2.2.2.1 | exact h_.2.2.2.2.2.2.1 | exact h_.2.2.2.2.2.2.2.1 | exact h_.2.2.2.2.2.2.2.2.1 | exact h_.2 | exact h_.2.2 | exact h_.2.2.2 | exact h_.2.2.2.2 | exact h_.2.2.2.2.2 | exact h_.2.2.2.2.2.2 | exact h_.2.2.2.2.2.2.2 | exact h_.2.2.2.2.2.2.2.2), (by have h_ := hk_; (try simp only [and_assoc] at h_); first | exact hk_.1.2.1 | exact h_.1 | exact h_.2.1 | exact h_.2.2.1 | exact h_.2.2.2.1 | exact h_.2.2.2.2.1 | exact h_.2.2.2.2.2.1 | exact h_.2.2.2.2.2.2.1 | exact h_.2.2.2.2.2.2.2.1 | exact h_.2.2.2.2.2.2.2.2.1 | exact h_.2 | exact h_.2.2 | exact h_.2.2.2 | exact h_.2.2.2.2 | exact h_.2.2.2.2.2 | exact h_.2.2.2.2.2.2 | exact h_.2.2.2.2.2.2.2 | exact h_.2.2.2.2.2.2.2.2), (by have h_ := hk_; (try simp only [and_assoc] at h_); first | exact hk_.1.2.2.1 | exact h_.1 | exact h_.2.1 | exact h_.2.2.1 | exact h_.2.2.2.1 | exact h_.2.2.2.2.1 | exact h_.2.2.2.2.2.1 | exact h_.2.2.2.2.2.2.1 | exact h_.2.2.2.2.2.2.2.1 | exact h_.2.2.2.2.2.2.2.2.1 | exact h_.2 | exact h_.2.2 | exact h_.2.2.2 | exact h_.2.2.2.2 | exact h_.2.2.2.2.2 | exact h_.2.2.2.2.2.2 | exact h_.2.2.2.2.2.2.2 | exact h_.2.2.2.2.2.2.2.2), (by have h_ := hk_; (try simp only [and_assoc] at h_); first | exact hk_.1.2.2.2.1 | exact h_.1 | exact h_.2.1 | exact h_.2.2.1 | exact h_.2.2.2.1 | exact h_.2.2.2.2.1 | exact h_.2.2.2.2.2.1 | exact h_.2.2.2.2.2.2.1 | exact h_.2.2.2.2.2.2.2.1 | exact h_.2.2.2.2.2.2.2.2.1 | exact h_.2 | exact h_.2.2 | exact h_.2.2.2 | exact h_.2.2.2.2 | exact h_.2.2.2.2.2 | exact h_.2.2.2.2.2.2 | exact h_.2.2.2.2.2.2.2 | exact h_.2.2.2.2.2.2.2.2), (by have h_ := hk_; (try simp only [and_assoc] at h_); first | exact hk_.1.2.2.2.2 | exact h_.1 | exact h_.2.1 | exact h_.2.2.1 | exact h_.2.2.2.1 | exact h_.2.2.2.2.1 | exact h_.2.2.2.2.2.1 | exact h_.2.2.2.2.2.2.1 | exact h_.2.2.2.2.2.2.2.1 | exact h_.2.2.2.2.2.2.2.2.1 | exact h_.2 | exact h_.2.2 | exact h_.2.2.2 | exact h_.2.2.2.2 | exact h_.2.2.2.2.2 | exact h_.2.2.2.2.2.2 | exact h_.2.2.2.2.2.2.2 | exact h_.2.2.2.2.2.2.2.2)⟩)); have n9_ := Aside0.mk (Kd.R_mono (ok' := fun k_ => some k_ ≠ (.slice Ao37 t300.length co37 : Value).ownBlock ∧ some k_ ≠ (.slice Ao33 t303.length co33 : Value).ownBlock ∧ some k_ ≠ (.slice Ao36 t306.length co36 : Value).ownBlock ∧ some k_ ≠ (.slice Ao58 t315.length co58 : Value).ownBlock ∧ some k_ ≠ (.slice Ao61 t319.length co61 : Value).ownBlock) (Kd.R_keptB (HO324.out) hkp (fun k_ hk_ hs_ => Or.elim hs_ (fun e_ => (by have h_ := hk_; (try simp only [and_assoc] at h_); first | exact (hk_.2.1) e_ | exact h_.1 e_ | exact h_.2.1 e_ | exact h_.2.2.1 e_ | exact h_.2.2.2.1 e_ | exact h_.2.2.2.2.1 e_ | exact h_.2.2.2.2.2.1 e_ | exact h_.2.2.2.2.2.2.1 e_ | exact h_.2.2.2.2.2.2.2.1 e_ | exact h_.2.2.2.2.2.2.2.2.1 e_ | exact h_.2 e_ | exact h_.2.2 e_ | exact h_.2.2.2 e_ | exact h_.2.2.2.2 e_ | exact h_.2.2.2.2.2 e_ | exact h_.2.2.2.2.2.2 e_ | exact h_.2.2.2.2.2.2.2 e_ | exact h_.2.2.2.2.2.2.2.2 e_)) (fun e_ => (by have h_ := hk_; (try simp only [and_assoc] at h_); first | exact (hk_.2.2.1) e_ | exact h_.1 e_ | exact h_.2.1 e_ | exact h_.2.2.1 e_ | exact h_.2.2.2.1 e_ | exact h_.2.2.2.2.1 e_ | exact h_.2.2.2.2.2.1 e_ | exact h_.2.2.2.2.2.2.1 e_ | exact h_.2.2.2.2.2.2.2.1 e_ | exact h_.2.2.2.2.2.2.2.2.1 e_ | exact h_.2 e_ | exact h_.2.2 e_ | exact h_.2.2.2 e_ | exact h_.2.2.2.2 e_ | exact h_.2.2.2.2.2 e_ | exact h_.2.2.2.2.2.2 e_ | exact h_.2.2.2.2.2.2.2 e_ | exact h_.2.2.2.2.2.2.2.2 e_)))) (fun k_ hk_ => ⟨(by have h_ := hk_; (try simp only [and_assoc] at h_); first | exact hk_.1.1 | exact h_.1 | exact h_.2.1 | exact h_.2.2.1 | exact h_.2.2.2.1 | exact h_.2.2.2.2.1 | exact h_.2.2.2.2.2.1 | exact h_.2.2.2.2.2.2.1 | exact h_.2.2.2.2.2.2.2.1 | exact h_.2.2.2.2.2.2.2.2.1 | exact h_.2 | exact h_.2.2 | exact h_.2.2.2 | exact h_.2.2.2.2 | exact h_.2.2.2.2.2 | exact h_.2.2.2.2.2.2 | exact h_.2.2.2.2.2.2.2 | exact h_.2.2.2.2.2.2.2.2), (by have h_ := hk_; (try simp only [and_assoc] at h_); first | exact hk_.1.2.1 | exact h_.1 | exact h_.2.1 | exact h_.2.2.1 | exact h_.2.2.2.1 | exact h_.2.2.2.2.1 | exact h_.2.2.2.2.2.1 | exact h_.2.2.2.2.2.2.1 | exact h_.2.2.2.2.2.2.2.1 | exact h_.2.2.2.2.2.2.2.2.1 | exact h_.2 | exact h_.2.2 | exact h_.2.2.2 | exact h_.2.2.2.2 | exact h_.2.2.2.2.2 | exact h_.2.2.2.2.2.2 | exact h_.2.2.2.2.2.2.2 | exact h_.2.2.2.2.2.2.2.2), (by have h_ := hk_; (try simp only [and_assoc] at h_); first | exact hk_.1.2.2.1 | exact h_.1 | exact h_.2.1 | exact h_.2.2.1 | exact h_.2.2.2.1 | exact h_.2.2.2.2.1 | exact h_.2.2.2.2.2.1 | exact h_.2.2.2.2.2.2.1 | exact h_.2.2.2.2.2.2.2.1 | exact h_.2.2.2.2.2.2.2.2.1 | exact h_.2 | exact h_.2.2 | exact h_.2.2.2 | exact h_.2.2.2.2 | exact h_.2.2.2.2.2 | exact h_.2.2.2.2.2.2 | exact h_.2.2.2.2.2.2.2 | exact h_.2.2.2.2.2.2.2.2), (by have h_ := hk_; (try simp only [and_assoc] at h_); first | exact hk_.1.2.2.2.1 | exact h_.1 | exact h_.2.1 | exact h_.2.2.1 | exact h_.2.2.2.1 | exact h_.2.2.2.2.1 | exact h_.2.2.2.2.2.1 | exact h_.2.2.2.2.2.2.1 | exact h_.2.2.2.2.2.2.2.1 | exact h_.2.2.2.2.2.2.2.2.1 | exact h_.2 | exact h_.2.2 | exact h_.2.2.2 | exact h_.2.2.2.2 | exact h_.2.2.2.2.2 | exact h_.2.2.2.2.2.2 | exact h_.2.2.2.2.2.2.2 | exact h_.2.2.2.2.2.2.2.2), (by have h_ := hk_; (try simp only [and_assoc] at h_); first | exact hk_.1.2.2.2.2 | exact h_.1 | exact h_.2.1 | exact h_.2.2.1 | exact h_.2.2.2.1 | exact h_.2.2.2.2.1 | exact h_.2.2.2.2.2.1 | exact h_.2.2.2.2.2.2.1 | exact h_.2.2.2.2.2.2.2.1 | exact h_.2.2.2.2.2.2.2.2.1 | exact h_.2 | exact h_.2.2 | exact h_.2.2.2 | exact h_.2.2.2.2 | exact h_.2.2.2.2.2 | exact h_.2.2.2.2.2.2 | exact h_.2.2.2.2.2.2.2 | exact h_.2.2.2.2.2.2.2.2)⟩)); have n10_ := Aside0.mk (hb); clear HO_10; clear HO_12; clear HO_14; clear HO_310000; clear HO_310001; clear BK285; clear BK309; clear HO317; clear HO321; clear HO324; clear HB; have HO_10 := n0_; have HO_12 := n1_; have HO_14 := n2_; have HO_310000 := n3_; have HO_310001 := n4_; have BK285 := n5_; have BK309 := n6_; have HO317 := n7_; have HO321 := n8_; have HO324 := n9_; have HB := n10_; clear n0_ n1_ n2_ n3_ n4_ n5_ n6_ n7_ n8_ n9_ n10_; (try clear hb); (try clear hkp); (try clear hy0); (try clear hy1)))
                (try simp only [Act.put, List.setIfInBounds_toArray, List.set_cons_zero, List.set_cons_succ])
                go_cut [88] (fun v88 wc => ∃ (kq : Nat) (x88_55 : Bool), v88 = .bool x88_55 ∧ Aside0 (laws_FnExactMakeSchedule.j1 kq l0 a2 a3 t296 t299 t310 x88_55 l1_0 l1_1 = some r) ∧ Aside0 (kq ≤ kj17) ∧ Aside0 (Kd.R k60 60 wc w.heap.size (fun k_ => some k_ ≠ (v311 : Value).ownBlock) v297 t296) ∧ Aside0 (Kd.R k60 60 wc w.heap.size (fun k_ => some k_ ≠ (v297 : Value).ownBlock) v311 t310) ∧ Aside0 (Kd.R (Kd.int .i64) 3 wc w.heap.size (fun k_ => some k_ ≠ ((.slice Ao36 t306.length co36) : Value).ownBlock) (.slice Ao33 t303.length co33) t329) ∧ Aside0 (Kd.R (Kd.int .i64) 3 wc w.heap.size (fun k_ => some k_ ≠ ((.slice Ao33 t303.length co33) : Value).ownBlock) (.slice Ao36 t306.length co36) t330) ∧ Aside0 (wc.heap[gb285]? = some (.cells #[(.slice A1_0 l1_0.length c1_0), (.slice A1_1 l1_1.length c1_1)] 45 (0, 0))) ∧ Aside0 (wc.heap[gb309]? = some (.cells #[(.slice Ao33 t303.length co33), (.slice Ao36 t306.length co36)] 48 (0, 0))) ∧ Aside0 (Below w.heap.size w wc))
                case first =>
                  have H := HC56.out
                  clear HC56
                  by_cases c68 : t328 < 0
                  · rw [if_pos c68] at H
                    have c68b0 : decide (t328 < 0) = true := decide_eq_true c68
                    clear c68
                    (first | rw [c68b0] | (simp only [i64_w, i32_w]; rw [c68b0]) | skip)
                    have H' := Aside0.mk H
                    clear H
                    go_wp2
                    go_meet
                    case rel => exact ⟨_, (true), (by first | rfl | (simp; done) | (simp [*]; done)), H', ⟨by have := HJ17.out; first | omega | exact Nat.le_refl _⟩, ⟨by (with_reducible repeat (first | apply Kd.R_alloc | apply Kd.R_drewN | apply Kd.R_drew)); exact HO_10.out⟩, ⟨by (with_reducible repeat (first | apply Kd.R_alloc | apply Kd.R_drewN | apply Kd.R_drew)); exact HO_14.out⟩, ⟨by (with_reducible repeat (first | apply Kd.R_alloc | apply Kd.R_drewN | apply Kd.R_drew)); exact Kd.R_mono HO_310000.out (fun _ hk => hk.2.1)⟩, ⟨by (with_reducible repeat (first | apply Kd.R_alloc | apply Kd.R_drewN | apply Kd.R_drew)); exact Kd.R_mono HO_310001.out (fun _ hk => hk.2.1)⟩, ⟨by (with_reducible repeat (first | refine blk_drewN ?_ _ | refine blk_drew ?_ | refine blk_alloc ?_ _)); exact BK285.out⟩, ⟨by (with_reducible repeat (first | refine blk_drewN ?_ _ | refine blk_drew ?_ | refine blk_alloc ?_ _)); exact BK309.out⟩, ⟨by repeat (first | (with_reducible first | exact HB.out | apply below_alloc | apply pw_below_drewN | apply below_drew1 | refine below_set ?_ GE285.out | refine below_set ?_ GE309.out) | exact HB.out)⟩⟩
                  · rw [if_neg c68] at H
                    have c68b0 : decide (t328 < 0) = false := decide_eq_false c68
                    clear c68
                    (first | rw [c68b0] | (simp only [i64_w, i32_w]; rw [c68b0]) | skip)
                    replace H := Option.bind_eq_some_iff.mp H
                    obtain ⟨t331, A690, H⟩ := H
                    replace H : (if t331 = true then (laws_FnExactMakeSchedule.j1 kj17 l0 a2 a3 t296 t299 t310 (t313 != t299) l1_0 l1_1) else (laws_FnExactMakeSchedule.j1 kj17 l0 a2 a3 t296 t299 t310 true l1_0 l1_1)) = some r := H
                    have A69 := Aside0.mk A690
                    clear A690
                    by_cases c70 : t331 = true
                    · subst c70
                      have H1 : (laws_FnExactMakeSchedule.j1 kj17 l0 a2 a3 t296 t299 t310 (t313 != t299) l1_0 l1_1) = some r := by rw [if_pos rfl] at H; exact H
                      clear H
                      have H := H1
                      clear H1
                      have H' := Aside0.mk H
                      clear H
                      obtain ⟨Ao71, co71, eo71⟩ := Kd.R_slice HO_14.out
                      subst eo71
                      obtain ⟨Ao72, co72, eo72⟩ := Kd.R_slice HO_10.out
                      subst eo72
                      go_wp2_with (first | (go_at_call 18; (with_reducible refine (laws_eqPeriodS.calls kj17 _ _ t310 _ _ t296 true _ ?side1 ?side2 ?side3 ?side4 A69.out).mono ?_); (case side1 => repeat (first | exact (Kd.R_reads' HO_14.out).2.2 | (with_reducible refine Kd.C_alloc ?_ _) | (with_reducible refine Kd.C_drewN ?_ _) | (with_reducible refine Kd.C_drew ?_))); (case side2 => exact (Kd.R_reads' HO_14.out).2.1); (case side3 => repeat (first | exact (Kd.R_reads' HO_10.out).2.2 | (with_reducible refine Kd.C_alloc ?_ _) | (with_reducible refine Kd.C_drewN ?_ _) | (with_reducible refine Kd.C_drew ?_))); (case side4 => exact (Kd.R_reads' HO_10.out).2.1); rintro e w73 ⟨rfl, hb⟩; have n0_ := Aside0.mk (Kd.R_below (by (with_reducible repeat (first | apply Kd.R_alloc | apply Kd.R_drewN | apply Kd.R_drew)); exact HO_10.out) hb); have n1_ := Aside0.mk (Kd.R_below (by (with_reducible repeat (first | apply Kd.R_alloc | apply Kd.R_drewN | apply Kd.R_drew)); exact HO_12.out) hb); have n2_ := Aside0.mk (Kd.R_below (by (with_reducible repeat (first | apply Kd.R_alloc | apply Kd.R_drewN | apply Kd.R_drew)); exact HO_14.out) hb); have n3_ := Aside0.mk (Kd.R_below (by (with_reducible repeat (first | apply Kd.R_alloc | apply Kd.R_drewN | apply Kd.R_drew)); exact HO_310000.out) hb); have n4_ := Aside0.mk (Kd.R_below (by (with_reducible repeat (first | apply Kd.R_alloc | apply Kd.R_drewN | apply Kd.R_drew)); exact HO_310001.out) hb); have n5_ := Aside0.mk (Kd.R_below (by (with_reducible repeat (first | apply Kd.R_alloc | apply Kd.R_drewN | apply Kd.R_drew)); exact HO317.out) hb); have n6_ := Aside0.mk (Kd.R_below (by (with_reducible repeat (first | apply Kd.R_alloc | apply Kd.R_drewN | apply Kd.R_drew)); exact HO321.out) hb); have n7_ := Aside0.mk (Kd.R_below (by (with_reducible repeat (first | apply Kd.R_alloc | apply Kd.R_drewN | apply Kd.R_drew)); exact HO324.out) hb); have n8_ := Aside0.mk (blk_below (g := gb285) (o := .cells #[.slice A1_0 l1_0.length c1_0, .slice A1_1 l1_1.length c1_1] 45 (0, 0)) (by (with_reducible repeat (first | refine blk_drewN ?_ _ | refine blk_drew ?_ | refine blk_alloc ?_ _)); exact BK285.out) hb); have n9_ := Aside0.mk (blk_below (g := gb309) (o := .cells #[.slice Ao33 t303.length co33, .slice Ao36 t306.length co36] 48 (0, 0)) (by (with_reducible repeat (first | refine blk_drewN ?_ _ | refine blk_drew ?_ | refine blk_alloc ?_ _)); exact BK309.out) hb); have n10_ := Aside0.mk (below_step (by repeat (first | (with_reducible first | exact HB.out | apply below_alloc | apply pw_below_drewN | apply below_drew1 | refine below_set ?_ GE285.out | refine below_set ?_ GE309.out) | exact HB.out)) hb); clear HO_10; clear HO_12; clear HO_14; clear HO_310000; clear HO_310001; clear HO317; clear HO321; clear HO324; clear BK285; clear BK309; clear HB; have HO_10 := n0_; have HO_12 := n1_; have HO_14 := n2_; have HO_310000 := n3_; have HO_310001 := n4_; have HO317 := n5_; have HO321 := n6_; have HO324 := n7_; have BK285 := n8_; have BK309 := n9_; have HB := n10_; clear n0_ n1_ n2_ n3_ n4_ n5_ n6_ n7_ n8_ n9_ n10_; (try clear hb); (try clear hb2); (try clear hk); (try clear hi)))
                      go_meet
                      case rel => exact ⟨_, ((t313 != t299)), (by first | rfl | (simp; done) | (simp [*]; done)), H', ⟨by have := HJ17.out; first | omega | exact Nat.le_refl _⟩, ⟨by (with_reducible repeat (first | apply Kd.R_alloc | apply Kd.R_drewN | apply Kd.R_drew)); exact HO_10.out⟩, ⟨by (with_reducible repeat (first | apply Kd.R_alloc | apply Kd.R_drewN | apply Kd.R_drew)); exact HO_14.out⟩, ⟨by (with_reducible repeat (first | apply Kd.R_alloc | apply Kd.R_drewN | apply Kd.R_drew)); exact Kd.R_mono HO_310000.out (fun _ hk => hk.2.1)⟩, ⟨by (with_reducible repeat (first | apply Kd.R_alloc | apply Kd.R_drewN | apply Kd.R_drew)); exact Kd.R_mono HO_310001.out (fun _ hk => hk.2.1)⟩, ⟨by (with_reducible repeat (first | refine blk_drewN ?_ _ | refine blk_drew ?_ | refine blk_alloc ?_ _)); exact BK285.out⟩, ⟨by (with_reducible repeat (first | refine blk_drewN ?_ _ | refine blk_drew ?_ | refine blk_alloc ?_ _)); exact BK309.out⟩, ⟨by repeat (first | (with_reducible first | exact HB.out | apply below_alloc | apply pw_below_drewN | apply below_drew1 | refine below_set ?_ GE285.out | refine below_set ?_ GE309.out) | exact HB.out)⟩⟩
                    · replace c70 := Bool.eq_false_iff.mpr c70
                      subst c70
                      have H1 : (laws_FnExactMakeSchedule.j1 kj17 l0 a2 a3 t296 t299 t310 true l1_0 l1_1) = some r := by rw [if_neg (show ¬ (false = true) by decide)] at H; exact H
                      clear H
                      have H := H1
                      clear H1
                      have H' := Aside0.mk H
                      clear H
                      obtain ⟨Ao74, co74, eo74⟩ := Kd.R_slice HO_14.out
                      subst eo74
                      obtain ⟨Ao75, co75, eo75⟩ := Kd.R_slice HO_10.out
                      subst eo75
                      go_wp2_with (first | (go_at_call 18; (with_reducible refine (laws_eqPeriodS.calls kj17 _ _ t310 _ _ t296 false _ ?side1 ?side2 ?side3 ?side4 A69.out).mono ?_); (case side1 => repeat (first | exact (Kd.R_reads' HO_14.out).2.2 | (with_reducible refine Kd.C_alloc ?_ _) | (with_reducible refine Kd.C_drewN ?_ _) | (with_reducible refine Kd.C_drew ?_))); (case side2 => exact (Kd.R_reads' HO_14.out).2.1); (case side3 => repeat (first | exact (Kd.R_reads' HO_10.out).2.2 | (with_reducible refine Kd.C_alloc ?_ _) | (with_reducible refine Kd.C_drewN ?_ _) | (with_reducible refine Kd.C_drew ?_))); (case side4 => exact (Kd.R_reads' HO_10.out).2.1); rintro e w76 ⟨rfl, hb⟩; have n0_ := Aside0.mk (Kd.R_below (by (with_reducible repeat (first | apply Kd.R_alloc | apply Kd.R_drewN | apply Kd.R_drew)); exact HO_10.out) hb); have n1_ := Aside0.mk (Kd.R_below (by (with_reducible repeat (first | apply Kd.R_alloc | apply Kd.R_drewN | apply Kd.R_drew)); exact HO_12.out) hb); have n2_ := Aside0.mk (Kd.R_below (by (with_reducible repeat (first | apply Kd.R_alloc | apply Kd.R_drewN | apply Kd.R_drew)); exact HO_14.out) hb); have n3_ := Aside0.mk (Kd.R_below (by (with_reducible repeat (first | apply Kd.R_alloc | apply Kd.R_drewN | apply Kd.R_drew)); exact HO_310000.out) hb); have n4_ := Aside0.mk (Kd.R_below (by (with_reducible repeat (first | apply Kd.R_alloc | apply Kd.R_drewN | apply Kd.R_drew)); exact HO_310001.out) hb); have n5_ := Aside0.mk (Kd.R_below (by (with_reducible repeat (first | apply Kd.R_alloc | apply Kd.R_drewN | apply Kd.R_drew)); exact HO317.out) hb); have n6_ := Aside0.mk (Kd.R_below (by (with_reducible repeat (first | apply Kd.R_alloc | apply Kd.R_drewN | apply Kd.R_drew)); exact HO321.out) hb); have n7_ := Aside0.mk (Kd.R_below (by (with_reducible repeat (first | apply Kd.R_alloc | apply Kd.R_drewN | apply Kd.R_drew)); exact HO324.out) hb); have n8_ := Aside0.mk (blk_below (g := gb285) (o := .cells #[.slice A1_0 l1_0.length c1_0, .slice A1_1 l1_1.length c1_1] 45 (0, 0)) (by (with_reducible repeat (first | refine blk_drewN ?_ _ | refine blk_drew ?_ | refine blk_alloc ?_ _)); exact BK285.out) hb); have n9_ := Aside0.mk (blk_below (g := gb309) (o := .cells #[.slice Ao33 t303.length co33, .slice Ao36 t306.length co36] 48 (0, 0)) (by (with_reducible repeat (first | refine blk_drewN ?_ _ | refine blk_drew ?_ | refine blk_alloc ?_ _)); exact BK309.out) hb); have n10_ := Aside0.mk (below_step (by repeat (first | (with_reducible first | exact HB.out | apply below_alloc | apply pw_below_drewN | apply below_drew1 | refine below_set ?_ GE285.out | refine below_set ?_ GE309.out) | exact HB.out)) hb); clear HO_10; clear HO_12; clear HO_14; clear HO_310000; clear HO_310001; clear HO317; clear HO321; clear HO324; clear BK285; clear BK309; clear HB; have HO_10 := n0_; have HO_12 := n1_; have HO_14 := n2_; have HO_310000 := n3_; have HO_310001 := n4_; have HO317 := n5_; have HO321 := n6_; have HO324 := n7_; have BK285 := n8_; have BK309 := n9_; have HB := n10_; clear n0_ n1_ n2_ n3_ n4_ n5_ n6_ n7_ n8_ n9_ n10_; (try clear hb); (try clear hb2); (try clear hk); (try clear hi)))
                      go_meet
                      case rel => exact ⟨_, (true), (by first | rfl | (simp; done) | (simp [*]; done)), H', ⟨by have := HJ17.out; first | omega | exact Nat.le_refl _⟩, ⟨by (with_reducible repeat (first | apply Kd.R_alloc | apply Kd.R_drewN | apply Kd.R_drew)); exact HO_10.out⟩, ⟨by (with_reducible repeat (first | apply Kd.R_alloc | apply Kd.R_drewN | apply Kd.R_drew)); exact HO_14.out⟩, ⟨by (with_reducible repeat (first | apply Kd.R_alloc | apply Kd.R_drewN | apply Kd.R_drew)); exact Kd.R_mono HO_310000.out (fun _ hk => hk.2.1)⟩, ⟨by (with_reducible repeat (first | apply Kd.R_alloc | apply Kd.R_drewN | apply Kd.R_drew)); exact Kd.R_mono HO_310001.out (fun _ hk => hk.2.1)⟩, ⟨by (with_reducible repeat (first | refine blk_drewN ?_ _ | refine blk_drew ?_ | refine blk_alloc ?_ _)); exact BK285.out⟩, ⟨by (with_reducible repeat (first | refine blk_drewN ?_ _ | refine blk_drew ?_ | refine blk_alloc ?_ _)); exact BK309.out⟩, ⟨by repeat (first | (with_reducible first | exact HB.out | apply below_alloc | apply pw_below_drewN | apply below_drew1 | refine below_set ?_ GE285.out | refine below_set ?_ GE309.out) | exact HB.out)⟩⟩
                case rest =>
                  clear HC56
                  try clear c1
                  try clear c2
                  try clear p2
                  try clear c3
                  try clear c4
                  try clear c5
                  try clear c5b0
                  try clear c5b1
                  try clear c6
                  try clear c7
                  try clear c8
                  try clear c8b0
                  try clear c9
                  try clear c18
                  try clear c22
                  try clear c24
                  try clear c33
                  try clear c34
                  try clear c35
                  try clear c36
                  try clear c37
                  try clear c38
                  try clear c39
                  try clear c40
                  try clear c47
                  try clear c50
                  try clear c53
                  try clear c65
                  try clear c68
                  try clear c68b0
                  try clear c70
                  try clear hcz10_0
                  try clear hcz10_1
                  try clear hcz20_0
                  try clear hcz20_1
                  try clear hcz30_0
                  try clear hcz30_1
                  try clear hcz35_0
                  try clear hcz35_1
                  try clear hcz66_0
                  try clear hcz66_1
                  try clear hfz10_0
                  try clear hfz10_1
                  try clear hfz20_0
                  try clear hfz20_1
                  try clear hfz30_0
                  try clear hfz30_1
                  try clear hfz35_0
                  try clear hfz35_1
                  try clear hfz66_0
                  try clear hfz66_1
                  try clear p2
                  obtain ⟨kq, x88_55, rfl, HA, HJ55, HO_10, HO_14, HO_310000, HO_310001, BK285, BK309, HB⟩ := hcut
                  have hl310000_55 := (Kd.R_reads' HO_310000.out).1
                  rw [hl310000_55] at HO_310000
                  (try simp only [hl310000_55])
                  (try simp only [hl310000_55] at BK285)
                  (try simp only [hl310000_55] at BK309)
                  (try simp only [hl310000_55] at HO_10)
                  (try simp only [hl310000_55] at HO_14)
                  (try simp only [hl310000_55] at HO_310001)
                  have hl310001_55 := (Kd.R_reads' HO_310001.out).1
                  rw [hl310001_55] at HO_310001
                  (try simp only [hl310001_55])
                  (try simp only [hl310001_55] at BK285)
                  (try simp only [hl310001_55] at BK309)
                  (try simp only [hl310001_55] at HO_10)
                  (try simp only [hl310001_55] at HO_14)
                  (try simp only [hl310001_55] at HO_310000)
                  cases kq with
                  | zero => exact absurd HA.out (by simp [laws_FnExactMakeSchedule.j1])
                  | succ kj55 =>
                    have H := HA.out
                    clear HA
                    simp only [laws_FnExactMakeSchedule.j1] at H
                    by_cases c77 : x88_55 = true
                    · subst c77
                      have H1 : (some false) = some r := by rw [if_pos rfl] at H; exact H
                      clear H
                      have H := H1
                      clear H1
                      obtain rfl := Option.some.inj H
                      go_wp2
                      go_ret
                      exact ⟨by first | rfl | (simp only [Int.mul_zero, show wrap64 0 = 0 from by unfold wrap64; omega]; rfl) | (simp [errW_none, errW_some] <;> rfl) | (simp [*, errW_none, errW_some] <;> rfl), by repeat (first | (with_reducible first | exact HB.out | apply below_alloc | apply pw_below_drewN | apply below_drew1 | refine below_set ?_ GE285.out | refine below_set ?_ GE309.out) | exact HB.out)⟩
                    · replace c77 := Bool.eq_false_iff.mpr c77
                      subst c77
                      have H1 : ((laws_markPeriodS.f kj55 t310 1).bind fun bt332 => ((laws_heldPeriodS.f kj55 bt332.2 1).bind fun t334 => (if t334 < 0 then (some false) else (if t334 = bt332.1 then ((laws_toIntS.f kj55 l0).bind fun t335 => ((laws_toCalendar.f kj55 l1_0 l1_1).bind fun bt338 => ((impl_MakeSchedule.f kj55 t335 bt338.1 bt338.2 a2 a3).bind fun bt344 => ((laws_eqPeriodS.f kj55 bt344.1 t296).bind fun t348 => (if t348 = true then (laws_FnExactMakeSchedule.j2 kj55 bt332.2 bt332.1 (bt344.2 != t299)) else (laws_FnExactMakeSchedule.j2 kj55 bt332.2 bt332.1 true)))))) else (some false))))) = some r := by rw [if_neg (show ¬ (false = true) by decide)] at H; exact H
                      clear H
                      have H := H1
                      clear H1
                      replace H := Option.bind_eq_some_iff.mp H
                      obtain ⟨⟨t332, t333⟩, A780, H⟩ := H
                      replace H : ((laws_heldPeriodS.f kj55 t333 1).bind fun t334 => (if t334 < 0 then (some false) else (if t334 = t332 then ((laws_toIntS.f kj55 l0).bind fun t335 => ((laws_toCalendar.f kj55 l1_0 l1_1).bind fun bt338 => ((impl_MakeSchedule.f kj55 t335 bt338.1 bt338.2 a2 a3).bind fun bt344 => ((laws_eqPeriodS.f kj55 bt344.1 t296).bind fun t348 => (if t348 = true then (laws_FnExactMakeSchedule.j2 kj55 t333 t332 (bt344.2 != t299)) else (laws_FnExactMakeSchedule.j2 kj55 t333 t332 true)))))) else (some false)))) = some r := H
                      have A78 := Aside0.mk A780
                      clear A780
                      replace H := Option.bind_eq_some_iff.mp H
                      obtain ⟨t334, A790, H⟩ := H
                      replace H : (if t334 < 0 then (some false) else (if t334 = t332 then ((laws_toIntS.f kj55 l0).bind fun t335 => ((laws_toCalendar.f kj55 l1_0 l1_1).bind fun bt338 => ((impl_MakeSchedule.f kj55 t335 bt338.1 bt338.2 a2 a3).bind fun bt344 => ((laws_eqPeriodS.f kj55 bt344.1 t296).bind fun t348 => (if t348 = true then (laws_FnExactMakeSchedule.j2 kj55 t333 t332 (bt344.2 != t299)) else (laws_FnExactMakeSchedule.j2 kj55 t333 t332 true)))))) else (some false))) = some r := H
                      have A79 := Aside0.mk A790
                      clear A790
                      by_cases c80 : t334 < 0
                      · rw [if_pos c80] at H
                        have c80b0 : decide (t334 < 0) = true := decide_eq_true c80
                        clear c80
                        obtain rfl := Option.some.inj H
                        obtain ⟨Ao81, co81, eo81⟩ := Kd.R_slice HO_14.out
                        subst eo81
                        go_wp2_with (first | ((with_reducible refine gate_callee (f := 27) rfl ?_); refine goesL_ (some 91) rfl rfl Try.func27 (by kernel_rfl) rfl #[.slice Ao81 t310.length co81, .int .i64 1] rfl (by (try simp only [List.map_toArray, List.map_cons, List.map_nil]); first | done | rfl | (simp only [List.length_drop, List.length_take]; rfl)) ?_; (with_reducible refine (laws_markPeriodS.calls kj55 (fun k_ => some k_ = (.slice Ao81 t310.length co81 : Value).ownBlock) (.slice Ao81 t310.length co81) t310 1 t332 t333 w _ ?side1 ?side2 A78.out).mono ?_); (case side1 => repeat (first | (with_reducible first | exact HB.out | apply below_alloc | apply pw_below_drewN | apply below_drew1 | refine below_set ?_ GE285.out | refine below_set ?_ GE309.out) | exact HB.out)); (case side2 => exact Kd.R_tight rfl HO_14.out); rintro e w82 ⟨rfl, hy0, hb, hkp⟩; refine ⟨_, rfl, ?_⟩; have n0_ := Aside0.mk (Kd.R_mono (ok' := fun k_ => some k_ ≠ (.slice Ao81 t310.length co81 : Value).ownBlock) (Kd.R_keptB (HO_10.out) hkp (fun k_ hk_ hs_ => (hk_) hs_)) (fun k_ hk_ => hk_.1)); have n1_ := Aside0.mk (Kd.R_reok rfl hy0 (fun k_ e_ => HO_14.out.1 k_ e_)); have n2_ := Aside0.mk (Kd.R_mono (ok' := fun k_ => some k_ ≠ (.slice Ao36 t330.length co36 : Value).ownBlock) (Kd.R_keptB ((Kd.R_apart' HO_310000.out (Kd.R_typed HO_14.out) (by decide))) hkp (fun k_ hk_ hs_ => (hk_.2) hs_)) (fun k_ hk_ => hk_.1.1)); have n3_ := Aside0.mk (Kd.R_mono (ok' := fun k_ => some k_ ≠ (.slice Ao33 t329.length co33 : Value).ownBlock) (Kd.R_keptB ((Kd.R_apart' HO_310001.out (Kd.R_typed HO_14.out) (by decide))) hkp (fun k_ hk_ hs_ => (hk_.2) hs_)) (fun k_ hk_ => hk_.1.1)); have n4_ := Aside0.mk (blk_kept (by (with_reducible repeat (first | refine blk_drewN ?_ _ | refine blk_drew ?_ | refine blk_alloc ?_ _)); exact BK285.out) hkp (fun hs_ => (fun e_ => (Kd.R_ne HO_14.out BK285.out (by decide)) e_) hs_)); have n5_ := Aside0.mk (blk_kept (by (with_reducible repeat (first | refine blk_drewN ?_ _ | refine blk_drew ?_ | refine blk_alloc ?_ _)); exact BK309.out) hkp (fun hs_ => (fun e_ => (Kd.R_ne HO_14.out BK309.out (by decide)) e_) hs_)); have n6_ := Aside0.mk (hb); clear HO_10; clear HO_14; clear HO_310000; clear HO_310001; clear BK285; clear BK309; clear HB; have HO_10 := n0_; have HO_14 := n1_; have HO_310000 := n2_; have HO_310001 := n3_; have BK285 := n4_; have BK309 := n5_; have HB := n6_; clear n0_ n1_ n2_ n3_ n4_ n5_ n6_; (try clear hb); (try clear hkp); (try clear hy0)) | ((with_reducible refine gate_callee (f := 28) rfl ?_); refine goesL_ (some 94) rfl rfl Try.func28 (by kernel_rfl) rfl #[.slice Ao81 t333.length co81, .int .i64 1] rfl (by (try simp only [List.map_toArray, List.map_cons, List.map_nil]); first | done | (rw [show t333.length = t310.length from (Kd.R_reads' HO_14.out).1.symm] <;> rfl) | rfl | (simp only [List.length_drop, List.length_take]; rfl)) ?_; (with_reducible refine (laws_heldPeriodS.calls kj55 _ _ t333 1 t334 _ ?side1 ?side2 A79.out).mono ?_); (case side1 => repeat (first | exact (Kd.R_reads' HO_14.out).2.2 | (with_reducible refine Kd.C_alloc ?_ _) | (with_reducible refine Kd.C_drewN ?_ _) | (with_reducible refine Kd.C_drew ?_))); (case side2 => rw [show t333.length = t310.length from (Kd.R_reads' HO_14.out).1.symm]; exact (Kd.R_reads' HO_14.out).2.1); rintro e w' ⟨rfl, ⟨nd, rfl⟩⟩; refine ⟨_, rfl, ?_⟩))
                        go_ret
                        exact ⟨by first | rfl | (simp only [Int.mul_zero, show wrap64 0 = 0 from by unfold wrap64; omega]; rfl) | (simp [errW_none, errW_some] <;> rfl) | (simp [*, errW_none, errW_some] <;> rfl), by repeat (first | (with_reducible first | exact HB.out | apply below_alloc | apply pw_below_drewN | apply below_drew1 | refine below_set ?_ GE285.out | refine below_set ?_ GE309.out) | exact HB.out)⟩
                      · rw [if_neg c80] at H
                        have c80b0 : decide (t334 < 0) = false := decide_eq_false c80
                        clear c80
                        by_cases c83 : t334 = t332
                        · rw [if_pos c83] at H
                          have c83b0 : (t334 == t332) = true := beq_iff_eq.mpr c83
                          have c83b1 : (t334 != t332) = false := bne_eq_false_iff_eq.mpr c83
                          clear c83
                          replace H := Option.bind_eq_some_iff.mp H
                          obtain ⟨t335, A840, H⟩ := H
                          replace H : ((laws_toCalendar.f kj55 l1_0 l1_1).bind fun bt338 => ((impl_MakeSchedule.f kj55 t335 bt338.1 bt338.2 a2 a3).bind fun bt344 => ((laws_eqPeriodS.f kj55 bt344.1 t296).bind fun t348 => (if t348 = true then (laws_FnExactMakeSchedule.j2 kj55 t333 t332 (bt344.2 != t299)) else (laws_FnExactMakeSchedule.j2 kj55 t333 t332 true))))) = some r := H
                          have A84 := Aside0.mk A840
                          clear A840
                          replace H := Option.bind_eq_some_iff.mp H
                          obtain ⟨⟨t338, t341⟩, A850, H⟩ := H
                          replace H : ((impl_MakeSchedule.f kj55 t335 t338 t341 a2 a3).bind fun bt344 => ((laws_eqPeriodS.f kj55 bt344.1 t296).bind fun t348 => (if t348 = true then (laws_FnExactMakeSchedule.j2 kj55 t333 t332 (bt344.2 != t299)) else (laws_FnExactMakeSchedule.j2 kj55 t333 t332 true)))) = some r := H
                          have A85 := Aside0.mk A850
                          clear A850
                          replace H := Option.bind_eq_some_iff.mp H
                          obtain ⟨⟨t344, t347⟩, A860, H⟩ := H
                          replace H : ((laws_eqPeriodS.f kj55 t344 t296).bind fun t348 => (if t348 = true then (laws_FnExactMakeSchedule.j2 kj55 t333 t332 (t347 != t299)) else (laws_FnExactMakeSchedule.j2 kj55 t333 t332 true))) = some r := H
                          have A86 := Aside0.mk A860
                          clear A860
                          have HC87 := Aside0.mk H
                          clear H
                          obtain ⟨Ao88, co88, eo88⟩ := Kd.R_slice HO_14.out
                          subst eo88
                          try go_wp2_with (first | ((with_reducible refine gate_callee (f := 27) rfl ?_); refine goesL_ (some 91) rfl rfl Try.func27 (by kernel_rfl) rfl #[.slice Ao88 t310.length co88, .int .i64 1] rfl (by (try simp only [List.map_toArray, List.map_cons, List.map_nil]); first | done | rfl | (simp only [List.length_drop, List.length_take]; rfl)) ?_; (with_reducible refine (laws_markPeriodS.calls kj55 (fun k_ => some k_ = (.slice Ao88 t310.length co88 : Value).ownBlock) (.slice Ao88 t310.length co88) t310 1 t332 t333 w _ ?side1 ?side2 A78.out).mono ?_); (case side1 => repeat (first | (with_reducible first | exact HB.out | apply below_alloc | apply pw_below_drewN | apply below_drew1 | refine below_set ?_ GE285.out | refine below_set ?_ GE309.out) | exact HB.out)); (case side2 => exact Kd.R_tight rfl HO_14.out); rintro e w89 ⟨rfl, hy0, hb, hkp⟩; refine ⟨_, rfl, ?_⟩; have n0_ := Aside0.mk (Kd.R_mono (ok' := fun k_ => some k_ ≠ (.slice Ao88 t310.length co88 : Value).ownBlock) (Kd.R_keptB (HO_10.out) hkp (fun k_ hk_ hs_ => (hk_) hs_)) (fun k_ hk_ => hk_.1)); have n1_ := Aside0.mk (Kd.R_reok rfl hy0 (fun k_ e_ => HO_14.out.1 k_ e_)); have n2_ := Aside0.mk (Kd.R_mono (ok' := fun k_ => some k_ ≠ (.slice Ao36 t330.length co36 : Value).ownBlock) (Kd.R_keptB ((Kd.R_apart' HO_310000.out (Kd.R_typed HO_14.out) (by decide))) hkp (fun k_ hk_ hs_ => (hk_.2) hs_)) (fun k_ hk_ => hk_.1.1)); have n3_ := Aside0.mk (Kd.R_mono (ok' := fun k_ => some k_ ≠ (.slice Ao33 t329.length co33 : Value).ownBlock) (Kd.R_keptB ((Kd.R_apart' HO_310001.out (Kd.R_typed HO_14.out) (by decide))) hkp (fun k_ hk_ hs_ => (hk_.2) hs_)) (fun k_ hk_ => hk_.1.1)); have n4_ := Aside0.mk (blk_kept (by (with_reducible repeat (first | refine blk_drewN ?_ _ | refine blk_drew ?_ | refine blk_alloc ?_ _)); exact BK285.out) hkp (fun hs_ => (fun e_ => (Kd.R_ne HO_14.out BK285.out (by decide)) e_) hs_)); have n5_ := Aside0.mk (blk_kept (by (with_reducible repeat (first | refine blk_drewN ?_ _ | refine blk_drew ?_ | refine blk_alloc ?_ _)); exact BK309.out) hkp (fun hs_ => (fun e_ => (Kd.R_ne HO_14.out BK309.out (by decide)) e_) hs_)); have n6_ := Aside0.mk (hb); clear HO_10; clear HO_14; clear HO_310000; clear HO_310001; clear BK285; clear BK309; clear HB; have HO_10 := n0_; have HO_14 := n1_; have HO_310000 := n2_; have HO_310001 := n3_; have BK285 := n4_; have BK309 := n5_; have HB := n6_; clear n0_ n1_ n2_ n3_ n4_ n5_ n6_; (try clear hb); (try clear hkp); (try clear hy0)) | ((with_reducible refine gate_callee (f := 28) rfl ?_); refine goesL_ (some 94) rfl rfl Try.func28 (by kernel_rfl) rfl #[.slice Ao88 t333.length co88, .int .i64 1] rfl (by (try simp only [List.map_toArray, List.map_cons, List.map_nil]); first | done | (rw [show t333.length = t310.length from (Kd.R_reads' HO_14.out).1.symm] <;> rfl) | rfl | (simp only [List.length_drop, List.length_take]; rfl)) ?_; (with_reducible refine (laws_heldPeriodS.calls kj55 _ _ t333 1 t334 _ ?side1 ?side2 A79.out).mono ?_); (case side1 => repeat (first | exact (Kd.R_reads' HO_14.out).2.2 | (with_reducible refine Kd.C_alloc ?_ _) | (with_reducible refine Kd.C_drewN ?_ _) | (with_reducible refine Kd.C_drew ?_))); (case side2 => rw [show t333.length = t310.length from (Kd.R_reads' HO_14.out).1.symm]; exact (Kd.R_reads' HO_14.out).2.1); rintro e w' ⟨rfl, ⟨nd, rfl⟩⟩; refine ⟨_, rfl, ?_⟩))
                          (try (rw [drewN_self w89]; generalize hq_ : World.drewN w89 _ = w89; have n0_ : Aside0 (Kd.R k60 60 w89 w.heap.size (fun k_ => some k_ ≠ (.slice Ao88 t310.length co88 : Value).ownBlock) v297 t296) := ⟨by rw [← hq_]; exact (by (with_reducible repeat (first | apply Kd.R_alloc | apply Kd.R_drewN | apply Kd.R_drew)); exact HO_10.out)⟩; have n1_ : Aside0 (Kd.R k60 60 w89 w.heap.size (fun k_ => some k_ ≠ (v297 : Value).ownBlock) (.slice Ao88 t310.length co88) t333) := ⟨by rw [← hq_]; exact (by (with_reducible repeat (first | apply Kd.R_alloc | apply Kd.R_drewN | apply Kd.R_drew)); exact HO_14.out)⟩; have n2_ : Aside0 (Kd.R (Kd.int .i64) 3 w89 w.heap.size (fun k_ => some k_ ≠ (.slice Ao36 t330.length co36 : Value).ownBlock) (.slice Ao33 t329.length co33) t329) := ⟨by rw [← hq_]; exact (by (with_reducible repeat (first | apply Kd.R_alloc | apply Kd.R_drewN | apply Kd.R_drew)); exact HO_310000.out)⟩; have n3_ : Aside0 (Kd.R (Kd.int .i64) 3 w89 w.heap.size (fun k_ => some k_ ≠ (.slice Ao33 t329.length co33 : Value).ownBlock) (.slice Ao36 t330.length co36) t330) := ⟨by rw [← hq_]; exact (by (with_reducible repeat (first | apply Kd.R_alloc | apply Kd.R_drewN | apply Kd.R_drew)); exact HO_310001.out)⟩; have n4_ : Aside0 (w89.heap[gb285]? = some (.cells #[.slice A1_0 l1_0.length c1_0, .slice A1_1 l1_1.length c1_1] 45 (0, 0))) := ⟨by rw [← hq_]; exact (by (with_reducible repeat (first | refine blk_drewN ?_ _ | refine blk_drew ?_ | refine blk_alloc ?_ _)); exact BK285.out)⟩; have n5_ : Aside0 (w89.heap[gb309]? = some (.cells #[.slice Ao33 t329.length co33, .slice Ao36 t330.length co36] 48 (0, 0))) := ⟨by rw [← hq_]; exact (by (with_reducible repeat (first | refine blk_drewN ?_ _ | refine blk_drew ?_ | refine blk_alloc ?_ _)); exact BK309.out)⟩; have n6_ : Aside0 (Below w.heap.size w w89) := ⟨by rw [← hq_]; exact (by repeat (first | (with_reducible first | exact HB.out | apply below_alloc | apply pw_below_drewN | apply below_drew1 | refine below_set ?_ GE285.out | refine below_set ?_ GE309.out) | exact HB.out))⟩; clear HO_10 HO_14 HO_310000 HO_310001 BK285 BK309 HB hq_; have HO_10 := n0_; have HO_14 := n1_; have HO_310000 := n2_; have HO_310001 := n3_; have BK285 := n4_; have BK309 := n5_; have HB := n6_; clear n0_ n1_ n2_ n3_ n4_ n5_ n6_))
                          have n0_ := Aside0.mk (Kd.R_drew HO_10.out)
                          have n1_ := Aside0.mk (Kd.R_drew HO_14.out)
                          have n2_ := Aside0.mk (Kd.R_drew HO_310000.out)
                          have n3_ := Aside0.mk (Kd.R_drew HO_310001.out)
                          have n4_ := Aside0.mk (blk_drew BK285.out)
                          have n5_ := Aside0.mk (blk_drew BK309.out)
                          have n6_ := Aside0.mk (below_drew1 HB.out)
                          clear HO_10
                          clear HO_14
                          clear HO_310000
                          clear HO_310001
                          clear BK285
                          clear BK309
                          clear HB
                          have HO_10 := n0_
                          have HO_14 := n1_
                          have HO_310000 := n2_
                          have HO_310001 := n3_
                          have BK285 := n4_
                          have BK309 := n5_
                          have HB := n6_
                          clear n0_ n1_ n2_ n3_ n4_ n5_ n6_
                          refine start_ (n := 12) (S := fun w' => w'.cell? ⟨gb285, 0, none⟩ = some (.slice A1_0 l1_0.length c1_0) ∧ w'.cell? ⟨gb285, 1, none⟩ = some (.slice A1_1 l1_1.length c1_1)) (ds := []) #[false, false, false, false, false, false, false, false, false, false, false, false] (by kernel_rfl) rfl rfl ⟨(blk_cell BK285.out 0).trans rfl, (blk_cell BK285.out 1).trans rfl⟩ (fun hHeld => ?_); refine with_tabW laws_FnExactMakeSchedule.tab30 laws_FnExactMakeSchedule.bits30 (fun HT_ HW_ => ?_)
                          generalize w89.drew = w90 at HO_10 HO_14 HO_310000 HO_310001 BK285 BK309 HB hHeld ⊢
                          refine pure_ (i := 0) (N := some 101) (v := ?_) (a' := ?_) #[true, false, false, false, false, false, false, false, false, false, false, false] rfl rfl (any_of HT_.out (by kernel_rfl)) (fun _ _ _ h => h) (Or.inl ⟨by rfl, ?_⟩) ?_ ?_
                          rotate_left
                          · intro w'
                            go_simp
                            with_reducible rfl
                          rotate_left
                          · simp only [Act.put, List.setIfInBounds_toArray, List.set_cons_zero, List.set_cons_succ, i64_w, i32_w]
                            rfl
                          refine pure_ (i := 4) (N := some 105) (v := ?_) (a' := ?_) #[true, false, false, false, true, false, false, false, false, false, false, false] rfl rfl (any_of HT_.out (by kernel_rfl)) (fun _ _ _ h => h) (Or.inl ⟨by rfl, ?_⟩) ?_ ?_
                          rotate_left
                          · intro w'
                            go_simp
                            with_reducible rfl
                          rotate_left
                          · simp only [Act.put, List.setIfInBounds_toArray, List.set_cons_zero, List.set_cons_succ, i64_w, i32_w]
                            rfl
                          refine pure_ (i := 5) (N := some 106) (v := ?_) (a' := ?_) #[true, false, false, false, true, true, false, false, false, false, false, false] rfl rfl (any_of HT_.out (by kernel_rfl)) (fun _ _ _ h => h) (Or.inl ⟨by rfl, ?_⟩) ?_ ?_
                          rotate_left
                          · intro w'
                            go_simp
                            with_reducible rfl
                          rotate_left
                          · simp only [Act.put, List.setIfInBounds_toArray, List.set_cons_zero, List.set_cons_succ, i64_w, i32_w]
                            rfl
                          refine take_ (i := 2) (N := some 103) (v := ?_) (a' := ?_) #[true, false, true, false, true, true, false, false, false, false, false, false] rfl rfl (take_ofW HT_.out HW_.out (by kernel_rfl)) (fun _ _ _ h => h) (Or.inl ⟨by rfl, ?_⟩) hHeld ?_ ?_
                          rotate_left
                          · rintro w' ⟨s0, s1⟩
                            go_simp
                            with_reducible rfl
                          rotate_left
                          · simp only [Act.put, List.setIfInBounds_toArray, List.set_cons_zero, List.set_cons_succ, i64_w, i32_w]
                            rfl
                          refine one_ (i := 1) (N := some 102) #[true, true, true, false, true, true, false, false, false, false, false, false] rfl rfl (one_of HT_.out (by kernel_rfl)) (by decide) (fun K hK => ?_)
                          refine goes_ Try.func22 (by kernel_rfl) rfl #[.slice A0 l0.length c0] (by rfl) rfl rfl (by (try simp only [List.map_toArray, List.map_cons, List.map_nil]); first | done | rfl | (simp only [List.length_drop, List.length_take]; rfl)) ?_
                          with_reducible refine (laws_toIntS.calls kj55 _ _ l0 t335 _ ?side1 ?side2 A84.out).mono ?_
                          (case side1 => repeat (first | exact (Kd.C_below HR0.out HB.out) | (with_reducible refine Kd.C_alloc ?_ _) | (with_reducible refine Kd.C_drewN ?_ _) | (with_reducible refine Kd.C_drew ?_)))
                          (case side2 => exact HC0.out)
                          rintro e w91 ⟨v336, rfl, ho0, hb⟩
                          refine ⟨_, rfl, ?_⟩
                          have n0_ := Aside0.mk (Kd.R_below (by (with_reducible repeat (first | apply Kd.R_alloc | apply Kd.R_drewN | apply Kd.R_drew)); exact HO_10.out) hb)
                          have n1_ := Aside0.mk (Kd.R_below (by (with_reducible repeat (first | apply Kd.R_alloc | apply Kd.R_drewN | apply Kd.R_drew)); exact HO_14.out) hb)
                          have n2_ := Aside0.mk (Kd.R_elder' (by (with_reducible repeat (first | apply Kd.R_alloc | apply Kd.R_drewN | apply Kd.R_drew)); exact HO_310000.out) (Kd.R_base ho0) hb)
                          have n3_ := Aside0.mk (Kd.R_elder' (by (with_reducible repeat (first | apply Kd.R_alloc | apply Kd.R_drewN | apply Kd.R_drew)); exact HO_310001.out) (Kd.R_base ho0) hb)
                          have n4_ := Aside0.mk (Kd.R_lower (Kd.R_new' (Kd.R_new' ho0 (Kd.R_lt (by (with_reducible repeat (first | apply Kd.R_alloc | apply Kd.R_drewN | apply Kd.R_drew)); exact HO_310000.out))) (Kd.R_lt (by (with_reducible repeat (first | apply Kd.R_alloc | apply Kd.R_drewN | apply Kd.R_drew)); exact HO_310001.out))) (below_size (by repeat (first | (with_reducible first | exact HB.out | apply below_alloc | apply pw_below_drewN | apply below_drew1 | refine below_set ?_ GE285.out | refine below_set ?_ GE309.out) | exact HB.out))))
                          have n5_ := Aside0.mk (blk_below (g := gb285) (o := .cells #[.slice A1_0 l1_0.length c1_0, .slice A1_1 l1_1.length c1_1] 45 (0, 0)) (by (with_reducible repeat (first | refine blk_drewN ?_ _ | refine blk_drew ?_ | refine blk_alloc ?_ _)); exact BK285.out) hb)
                          have n6_ := Aside0.mk (blk_below (g := gb309) (o := .cells #[.slice Ao33 t329.length co33, .slice Ao36 t330.length co36] 48 (0, 0)) (by (with_reducible repeat (first | refine blk_drewN ?_ _ | refine blk_drew ?_ | refine blk_alloc ?_ _)); exact BK309.out) hb)
                          have n7_ := Aside0.mk (below_step (by repeat (first | (with_reducible first | exact HB.out | apply below_alloc | apply pw_below_drewN | apply below_drew1 | refine below_set ?_ GE285.out | refine below_set ?_ GE309.out) | exact HB.out)) hb)
                          clear HO_10
                          clear HO_14
                          clear HO_310000
                          clear HO_310001
                          clear BK285
                          clear BK309
                          clear HB
                          have HO_10 := n0_
                          have HO_14 := n1_
                          have HO_310000 := n2_
                          have HO_310001 := n3_
                          have HO337 := n4_
                          have BK285 := n5_
                          have BK309 := n6_
                          have HB := n7_
                          clear n0_ n1_ n2_ n3_ n4_ n5_ n6_ n7_
                          (try clear hb)
                          (try clear hb2)
                          (try clear hk)
                          (try clear hi)
                          (try clear ho0)
                          refine hK.out _ _ ⟨(blk_cell BK285.out 0).trans rfl, (blk_cell BK285.out 1).trans rfl⟩ (fun hHeld => ?_)
                          clear hK K
                          refine norm_ (a' := ?_) ?_ ?_
                          rotate_left
                          · show Act.put _ (some 102) _ = _
                            simp only [Act.put, List.setIfInBounds_toArray, List.set_cons_zero, List.set_cons_succ, i64_w, i32_w]
                            rfl
                          refine one_ (i := 3) (N := some 104) #[true, true, true, true, true, true, false, false, false, false, false, false] rfl rfl (one_of HT_.out (by kernel_rfl)) (by decide) (fun K hK => ?_)
                          refine goes_ Try.func37 (by kernel_rfl) rfl #[.agg #[.slice A1_0 l1_0.length c1_0, .slice A1_1 l1_1.length c1_1]] (by rfl) rfl rfl (by (try simp only [List.map_toArray, List.map_cons, List.map_nil]); first | done | rfl | (simp only [List.length_drop, List.length_take]; rfl)) ?_
                          with_reducible refine (laws_toCalendar.calls kj55 _ _ l1_0 _ _ l1_1 t338 t341 _ ?side1 ?side2 ?side3 ?side4 A85.out).mono ?_
                          (case side1 => repeat (first | exact (Kd.C_below HR1_0.out HB.out) | (with_reducible refine Kd.C_alloc ?_ _) | (with_reducible refine Kd.C_drewN ?_ _) | (with_reducible refine Kd.C_drew ?_)))
                          (case side2 => exact HC1_0.out)
                          (case side3 => repeat (first | exact (Kd.C_below HR1_1.out HB.out) | (with_reducible refine Kd.C_alloc ?_ _) | (with_reducible refine Kd.C_drewN ?_ _) | (with_reducible refine Kd.C_drew ?_)))
                          (case side4 => exact HC1_1.out)
                          rintro e w92 ⟨v339, v342, rfl, ho0, ho1, hb⟩
                          refine ⟨_, rfl, ?_⟩
                          have n0_ := Aside0.mk (Kd.R_below (by (with_reducible repeat (first | apply Kd.R_alloc | apply Kd.R_drewN | apply Kd.R_drew)); exact HO_10.out) hb)
                          have n1_ := Aside0.mk (Kd.R_below (by (with_reducible repeat (first | apply Kd.R_alloc | apply Kd.R_drewN | apply Kd.R_drew)); exact HO_14.out) hb)
                          have n2_ := Aside0.mk (Kd.R_mono (Kd.R_told (Kd.R_told (Kd.R_old (by (with_reducible repeat (first | apply Kd.R_alloc | apply Kd.R_drewN | apply Kd.R_drew)); exact HO_310000.out) hb) (Kd.R_base ho0)) (Kd.R_base ho1)) (fun _ h_ => h_.1))
                          have n3_ := Aside0.mk (Kd.R_mono (Kd.R_told (Kd.R_told (Kd.R_old (by (with_reducible repeat (first | apply Kd.R_alloc | apply Kd.R_drewN | apply Kd.R_drew)); exact HO_310001.out) hb) (Kd.R_base ho0)) (Kd.R_base ho1)) (fun _ h_ => h_.1))
                          have n4_ := Aside0.mk (Kd.R_mono (Kd.R_told (Kd.R_told (Kd.R_old (by (with_reducible repeat (first | apply Kd.R_alloc | apply Kd.R_drewN | apply Kd.R_drew)); exact HO337.out) hb) (Kd.R_base ho0)) (Kd.R_base ho1)) (fun _ h_ => h_.1))
                          have n5_ := Aside0.mk (Kd.R_lower (Kd.R_new' (Kd.R_new' (Kd.R_new' ho0 (Kd.R_lt (by (with_reducible repeat (first | apply Kd.R_alloc | apply Kd.R_drewN | apply Kd.R_drew)); exact HO_310000.out))) (Kd.R_lt (by (with_reducible repeat (first | apply Kd.R_alloc | apply Kd.R_drewN | apply Kd.R_drew)); exact HO_310001.out))) (Kd.R_lt (by (with_reducible repeat (first | apply Kd.R_alloc | apply Kd.R_drewN | apply Kd.R_drew)); exact HO337.out))) (below_size (by repeat (first | (with_reducible first | exact HB.out | apply below_alloc | apply pw_below_drewN | apply below_drew1 | refine below_set ?_ GE285.out | refine below_set ?_ GE309.out) | exact HB.out))))
                          have n6_ := Aside0.mk (Kd.R_lower (Kd.R_new' (Kd.R_new' (Kd.R_new' ho1 (Kd.R_lt (by (with_reducible repeat (first | apply Kd.R_alloc | apply Kd.R_drewN | apply Kd.R_drew)); exact HO_310000.out))) (Kd.R_lt (by (with_reducible repeat (first | apply Kd.R_alloc | apply Kd.R_drewN | apply Kd.R_drew)); exact HO_310001.out))) (Kd.R_lt (by (with_reducible repeat (first | apply Kd.R_alloc | apply Kd.R_drewN | apply Kd.R_drew)); exact HO337.out))) (below_size (by repeat (first | (with_reducible first | exact HB.out | apply below_alloc | apply pw_below_drewN | apply below_drew1 | refine below_set ?_ GE285.out | refine below_set ?_ GE309.out) | exact HB.out))))
                          have n7_ := Aside0.mk (blk_below (g := gb285) (o := .cells #[.slice A1_0 l1_0.length c1_0, .slice A1_1 l1_1.length c1_1] 45 (0, 0)) (by (with_reducible repeat (first | refine blk_drewN ?_ _ | refine blk_drew ?_ | refine blk_alloc ?_ _)); exact BK285.out) hb)
                          have n8_ := Aside0.mk (blk_below (g := gb309) (o := .cells #[.slice Ao33 t329.length co33, .slice Ao36 t330.length co36] 48 (0, 0)) (by (with_reducible repeat (first | refine blk_drewN ?_ _ | refine blk_drew ?_ | refine blk_alloc ?_ _)); exact BK309.out) hb)
                          have n9_ := Aside0.mk (below_step (by repeat (first | (with_reducible first | exact HB.out | apply below_alloc | apply pw_below_drewN | apply below_drew1 | refine below_set ?_ GE285.out | refine below_set ?_ GE309.out) | exact HB.out)) hb)
                          clear HO_10
                          clear HO_14
                          clear HO_310000
                          clear HO_310001
                          clear HO337
                          clear BK285
                          clear BK309
                          clear HB
                          have HO_10 := n0_
                          have HO_14 := n1_
                          have HO_310000 := n2_
                          have HO_310001 := n3_
                          have HO337 := n4_
                          have HO340 := n5_
                          have HO343 := n6_
                          have BK285 := n7_
                          have BK309 := n8_
                          have HB := n9_
                          clear n0_ n1_ n2_ n3_ n4_ n5_ n6_ n7_ n8_ n9_
                          (try clear hb)
                          (try clear hb2)
                          (try clear hk)
                          (try clear hi)
                          (try clear ho0)
                          (try clear ho1)
                          obtain ⟨Ao93, co93, eo93⟩ := Kd.R_slice HO337.out
                          (first | subst eo93 | (injection eo93 with f1_ f2_ f3_; have f4_ := f1_.symm; have f5_ := f3_.symm; clear f1_ f2_ f3_; subst f4_; subst f5_))
                          obtain ⟨Ao94, co94, eo94⟩ := Kd.R_slice HO340.out
                          (first | subst eo94 | (injection eo94 with f1_ f2_ f3_; have f4_ := f1_.symm; have f5_ := f3_.symm; clear f1_ f2_ f3_; subst f4_; subst f5_))
                          obtain ⟨Ao95, co95, eo95⟩ := Kd.R_slice HO343.out
                          (first | subst eo95 | (injection eo95 with f1_ f2_ f3_; have f4_ := f1_.symm; have f5_ := f3_.symm; clear f1_ f2_ f3_; subst f4_; subst f5_))
                          refine hK.out _ _ ⟨(blk_cell BK285.out 0).trans rfl, (blk_cell BK285.out 1).trans rfl⟩ (fun hHeld => ?_)
                          clear hK K
                          refine norm_ (a' := ?_) ?_ ?_
                          rotate_left
                          · show Act.put _ (some 104) _ = _
                            simp only [Act.put, List.setIfInBounds_toArray, List.set_cons_zero, List.set_cons_succ, i64_w, i32_w]
                            rfl
                          refine one_ (i := 6) (N := some 107) #[true, true, true, true, true, true, true, false, false, false, false, false] rfl rfl (one_of HT_.out (by kernel_rfl)) (by decide) (fun K hK => ?_)
                          refine goes_ Try.func38 (by kernel_rfl) rfl #[.slice Ao93 t335.length co93, .agg #[.slice Ao94 t338.length co94, .slice Ao95 t341.length co95], .int .i64 a2, .int .i64 a3] (by rfl) rfl rfl (by (try simp only [List.map_toArray, List.map_cons, List.map_nil]); first | done | rfl | (simp only [List.length_drop, List.length_take]; rfl)) ?_
                          with_reducible refine (impl_MakeSchedule.calls kj55 _ _ t335 _ _ t338 _ _ t341 a2 a3 t344 t347 _ ?side1 ?side2 ?side3 ?side4 ?side5 ?side6 A86.out).mono ?_
                          (case side1 => repeat (first | exact (Kd.R_reads' HO337.out).2.2 | (with_reducible refine Kd.C_alloc ?_ _) | (with_reducible refine Kd.C_drewN ?_ _) | (with_reducible refine Kd.C_drew ?_)))
                          (case side2 => exact (Kd.R_reads' HO337.out).2.1)
                          (case side3 => repeat (first | exact (Kd.R_reads' HO340.out).2.2 | (with_reducible refine Kd.C_alloc ?_ _) | (with_reducible refine Kd.C_drewN ?_ _) | (with_reducible refine Kd.C_drew ?_)))
                          (case side4 => exact (Kd.R_reads' HO340.out).2.1)
                          (case side5 => repeat (first | exact (Kd.R_reads' HO343.out).2.2 | (with_reducible refine Kd.C_alloc ?_ _) | (with_reducible refine Kd.C_drewN ?_ _) | (with_reducible refine Kd.C_drew ?_)))
                          (case side6 => exact (Kd.R_reads' HO343.out).2.1)
                          rintro e w96 ⟨v345, rfl, ho0, hb⟩
                          refine ⟨_, rfl, ?_⟩
                          have n0_ := Aside0.mk (Kd.R_elder' (by (with_reducible repeat (first | apply Kd.R_alloc | apply Kd.R_drewN | apply Kd.R_drew)); exact HO_10.out) (Kd.R_base ho0) hb)
                          have n1_ := Aside0.mk (Kd.R_elder' (by (with_reducible repeat (first | apply Kd.R_alloc | apply Kd.R_drewN | apply Kd.R_drew)); exact HO_14.out) (Kd.R_base ho0) hb)
                          have n2_ := Aside0.mk (Kd.R_below (by (with_reducible repeat (first | apply Kd.R_alloc | apply Kd.R_drewN | apply Kd.R_drew)); exact HO_310000.out) hb)
                          have n3_ := Aside0.mk (Kd.R_below (by (with_reducible repeat (first | apply Kd.R_alloc | apply Kd.R_drewN | apply Kd.R_drew)); exact HO_310001.out) hb)
                          have n4_ := Aside0.mk (Kd.R_below (by (with_reducible repeat (first | apply Kd.R_alloc | apply Kd.R_drewN | apply Kd.R_drew)); exact HO337.out) hb)
                          have n5_ := Aside0.mk (Kd.R_below (by (with_reducible repeat (first | apply Kd.R_alloc | apply Kd.R_drewN | apply Kd.R_drew)); exact HO340.out) hb)
                          have n6_ := Aside0.mk (Kd.R_below (by (with_reducible repeat (first | apply Kd.R_alloc | apply Kd.R_drewN | apply Kd.R_drew)); exact HO343.out) hb)
                          have n7_ := Aside0.mk (Kd.R_lower (Kd.R_new' (Kd.R_new' ho0 (Kd.R_lt (by (with_reducible repeat (first | apply Kd.R_alloc | apply Kd.R_drewN | apply Kd.R_drew)); exact HO_10.out))) (Kd.R_lt (by (with_reducible repeat (first | apply Kd.R_alloc | apply Kd.R_drewN | apply Kd.R_drew)); exact HO_14.out))) (below_size (by repeat (first | (with_reducible first | exact HB.out | apply below_alloc | apply pw_below_drewN | apply below_drew1 | refine below_set ?_ GE285.out | refine below_set ?_ GE309.out) | exact HB.out))))
                          have n8_ := Aside0.mk (blk_below (g := gb285) (o := .cells #[.slice A1_0 l1_0.length c1_0, .slice A1_1 l1_1.length c1_1] 45 (0, 0)) (by (with_reducible repeat (first | refine blk_drewN ?_ _ | refine blk_drew ?_ | refine blk_alloc ?_ _)); exact BK285.out) hb)
                          have n9_ := Aside0.mk (blk_below (g := gb309) (o := .cells #[.slice Ao33 t329.length co33, .slice Ao36 t330.length co36] 48 (0, 0)) (by (with_reducible repeat (first | refine blk_drewN ?_ _ | refine blk_drew ?_ | refine blk_alloc ?_ _)); exact BK309.out) hb)
                          have n10_ := Aside0.mk (below_step (by repeat (first | (with_reducible first | exact HB.out | apply below_alloc | apply pw_below_drewN | apply below_drew1 | refine below_set ?_ GE285.out | refine below_set ?_ GE309.out) | exact HB.out)) hb)
                          clear HO_10
                          clear HO_14
                          clear HO_310000
                          clear HO_310001
                          clear HO337
                          clear HO340
                          clear HO343
                          clear BK285
                          clear BK309
                          clear HB
                          have HO_10 := n0_
                          have HO_14 := n1_
                          have HO_310000 := n2_
                          have HO_310001 := n3_
                          have HO337 := n4_
                          have HO340 := n5_
                          have HO343 := n6_
                          have HO346 := n7_
                          have BK285 := n8_
                          have BK309 := n9_
                          have HB := n10_
                          clear n0_ n1_ n2_ n3_ n4_ n5_ n6_ n7_ n8_ n9_ n10_
                          (try clear hb)
                          (try clear hb2)
                          (try clear hk)
                          (try clear hi)
                          (try clear ho0)
                          refine hK.out _ _ ⟨(blk_cell BK285.out 0).trans rfl, (blk_cell BK285.out 1).trans rfl⟩ (fun hHeld => ?_)
                          clear hK K
                          refine norm_ (a' := ?_) ?_ ?_
                          rotate_left
                          · show Act.put _ (some 107) _ = _
                            simp only [Act.put, List.setIfInBounds_toArray, List.set_cons_zero, List.set_cons_succ, i64_w, i32_w]
                            rfl
                          refine pure_ (i := 7) (N := some 100) (v := ?_) (a' := ?_) #[true, true, true, true, true, true, true, true, false, false, false, false] rfl rfl (any_of HT_.out (by kernel_rfl)) (fun _ _ _ h => h) (Or.inl ⟨by rfl, ?_⟩) ?_ ?_
                          rotate_left
                          · intro w'
                            go_simp
                            with_reducible rfl
                          rotate_left
                          · simp only [Act.put, List.setIfInBounds_toArray, List.set_cons_zero, List.set_cons_succ, i64_w, i32_w]
                            rfl
                          refine pure_ (i := 8) (N := some 108) (v := ?_) (a' := ?_) #[true, true, true, true, true, true, true, true, true, false, false, false] rfl rfl (any_of HT_.out (by kernel_rfl)) (fun _ _ _ h => h) (Or.inl ⟨by rfl, ?_⟩) ?_ ?_
                          rotate_left
                          · intro w'
                            go_simp
                            with_reducible rfl
                          rotate_left
                          · simp only [Act.put, List.setIfInBounds_toArray, List.set_cons_zero, List.set_cons_succ, i64_w, i32_w]
                            rfl
                          refine pure_ (i := 9) (N := some 109) (v := ?_) (a' := ?_) #[true, true, true, true, true, true, true, true, true, true, false, false] rfl rfl (any_of HT_.out (by kernel_rfl)) (fun _ _ _ h => h) (Or.inl ⟨by rfl, ?_⟩) ?_ ?_
                          rotate_left
                          · intro w'
                            go_simp
                            with_reducible rfl
                          rotate_left
                          · simp only [Act.put, List.setIfInBounds_toArray, List.set_cons_zero, List.set_cons_succ, i64_w, i32_w]
                            rfl
                          refine pure_ (i := 10) (N := some 19) (v := ?_) (a' := ?_) #[true, true, true, true, true, true, true, true, true, true, true, false] rfl rfl (any_of HT_.out (by kernel_rfl)) (fun _ _ _ h => h) (Or.inl ⟨by rfl, ?_⟩) ?_ ?_
                          rotate_left
                          · intro w'
                            go_simp
                            with_reducible rfl
                          rotate_left
                          · simp only [Act.put, List.setIfInBounds_toArray, List.set_cons_zero, List.set_cons_succ, i64_w, i32_w]
                            rfl
                          refine pure_ (i := 11) (N := some 20) (v := ?_) (a' := ?_) #[true, true, true, true, true, true, true, true, true, true, true, true] rfl rfl (any_of HT_.out (by kernel_rfl)) (fun _ _ _ h => h) (Or.inl ⟨by rfl, ?_⟩) ?_ ?_
                          rotate_left
                          · intro w'
                            go_simp
                            with_reducible rfl
                          rotate_left
                          · simp only [Act.put, List.setIfInBounds_toArray, List.set_cons_zero, List.set_cons_succ, i64_w, i32_w]
                            rfl
                          refine done_ (done_of HT_.out (by kernel_rfl)) ?_
                          go_upto_region 31 with (fail)
                          go_cut [118] (fun v118 wc => ∃ (kq : Nat) (x118_86 : Bool), v118 = .bool x118_86 ∧ Aside0 (laws_FnExactMakeSchedule.j2 kq t333 t332 x118_86 = some r) ∧ Aside0 (kq ≤ kj55) ∧ Aside0 (Kd.R k60 60 wc w.heap.size (fun _ => True) (.slice Ao88 t310.length co88) t333) ∧ Aside0 (Kd.R (Kd.int .i64) 3 wc w.heap.size (fun k_ => some k_ ≠ ((.slice Ao36 t330.length co36) : Value).ownBlock) (.slice Ao33 t329.length co33) t329) ∧ Aside0 (Kd.R (Kd.int .i64) 3 wc w.heap.size (fun k_ => some k_ ≠ ((.slice Ao33 t329.length co33) : Value).ownBlock) (.slice Ao36 t330.length co36) t330) ∧ Aside0 (wc.heap[gb285]? = some (.cells #[(.slice A1_0 l1_0.length c1_0), (.slice A1_1 l1_1.length c1_1)] 45 (0, 0))) ∧ Aside0 (wc.heap[gb309]? = some (.cells #[(.slice Ao33 t329.length co33), (.slice Ao36 t330.length co36)] 48 (0, 0))) ∧ Aside0 (Below w.heap.size w wc))
                          case first =>
                            have H := HC87.out
                            clear HC87
                            replace H := Option.bind_eq_some_iff.mp H
                            obtain ⟨t348, A970, H⟩ := H
                            replace H : (if t348 = true then (laws_FnExactMakeSchedule.j2 kj55 t333 t332 (t347 != t299)) else (laws_FnExactMakeSchedule.j2 kj55 t333 t332 true)) = some r := H
                            have A97 := Aside0.mk A970
                            clear A970
                            by_cases c98 : t348 = true
                            · subst c98
                              have H1 : (laws_FnExactMakeSchedule.j2 kj55 t333 t332 (t347 != t299)) = some r := by rw [if_pos rfl] at H; exact H
                              clear H
                              have H := H1
                              clear H1
                              have H' := Aside0.mk H
                              clear H
                              obtain ⟨Ao99, co99, eo99⟩ := Kd.R_slice HO346.out
                              subst eo99
                              obtain ⟨Ao100, co100, eo100⟩ := Kd.R_slice HO_10.out
                              subst eo100
                              go_wp2_with (first | ((with_reducible refine gate_callee (f := 18) rfl ?_); refine goesL_ (some 112) rfl rfl Try.func18 (by kernel_rfl) rfl #[.slice Ao99 t344.length co99, .slice Ao100 t296.length co100] rfl (by (try simp only [List.map_toArray, List.map_cons, List.map_nil]); first | done | rfl | (simp only [List.length_drop, List.length_take]; rfl)) ?_; (with_reducible refine (laws_eqPeriodS.calls kj55 _ _ t344 _ _ t296 true _ ?side1 ?side2 ?side3 ?side4 A97.out).mono ?_); (case side1 => repeat (first | exact (Kd.R_reads' HO346.out).2.2 | (with_reducible refine Kd.C_alloc ?_ _) | (with_reducible refine Kd.C_drewN ?_ _) | (with_reducible refine Kd.C_drew ?_))); (case side2 => exact (Kd.R_reads' HO346.out).2.1); (case side3 => repeat (first | exact (Kd.R_reads' HO_10.out).2.2 | (with_reducible refine Kd.C_alloc ?_ _) | (with_reducible refine Kd.C_drewN ?_ _) | (with_reducible refine Kd.C_drew ?_))); (case side4 => exact (Kd.R_reads' HO_10.out).2.1); rintro e w101 ⟨rfl, hb⟩; refine ⟨_, rfl, ?_⟩; have n0_ := Aside0.mk (Kd.R_below (by (with_reducible repeat (first | apply Kd.R_alloc | apply Kd.R_drewN | apply Kd.R_drew)); exact HO_10.out) hb); have n1_ := Aside0.mk (Kd.R_below (by (with_reducible repeat (first | apply Kd.R_alloc | apply Kd.R_drewN | apply Kd.R_drew)); exact HO_14.out) hb); have n2_ := Aside0.mk (Kd.R_below (by (with_reducible repeat (first | apply Kd.R_alloc | apply Kd.R_drewN | apply Kd.R_drew)); exact HO_310000.out) hb); have n3_ := Aside0.mk (Kd.R_below (by (with_reducible repeat (first | apply Kd.R_alloc | apply Kd.R_drewN | apply Kd.R_drew)); exact HO_310001.out) hb); have n4_ := Aside0.mk (Kd.R_below (by (with_reducible repeat (first | apply Kd.R_alloc | apply Kd.R_drewN | apply Kd.R_drew)); exact HO337.out) hb); have n5_ := Aside0.mk (Kd.R_below (by (with_reducible repeat (first | apply Kd.R_alloc | apply Kd.R_drewN | apply Kd.R_drew)); exact HO340.out) hb); have n6_ := Aside0.mk (Kd.R_below (by (with_reducible repeat (first | apply Kd.R_alloc | apply Kd.R_drewN | apply Kd.R_drew)); exact HO343.out) hb); have n7_ := Aside0.mk (Kd.R_below (by (with_reducible repeat (first | apply Kd.R_alloc | apply Kd.R_drewN | apply Kd.R_drew)); exact HO346.out) hb); have n8_ := Aside0.mk (blk_below (g := gb285) (o := .cells #[.slice A1_0 l1_0.length c1_0, .slice A1_1 l1_1.length c1_1] 45 (0, 0)) (by (with_reducible repeat (first | refine blk_drewN ?_ _ | refine blk_drew ?_ | refine blk_alloc ?_ _)); exact BK285.out) hb); have n9_ := Aside0.mk (blk_below (g := gb309) (o := .cells #[.slice Ao33 t329.length co33, .slice Ao36 t330.length co36] 48 (0, 0)) (by (with_reducible repeat (first | refine blk_drewN ?_ _ | refine blk_drew ?_ | refine blk_alloc ?_ _)); exact BK309.out) hb); have n10_ := Aside0.mk (below_step (by repeat (first | (with_reducible first | exact HB.out | apply below_alloc | apply pw_below_drewN | apply below_drew1 | refine below_set ?_ GE285.out | refine below_set ?_ GE309.out) | exact HB.out)) hb); clear HO_10; clear HO_14; clear HO_310000; clear HO_310001; clear HO337; clear HO340; clear HO343; clear HO346; clear BK285; clear BK309; clear HB; have HO_10 := n0_; have HO_14 := n1_; have HO_310000 := n2_; have HO_310001 := n3_; have HO337 := n4_; have HO340 := n5_; have HO343 := n6_; have HO346 := n7_; have BK285 := n8_; have BK309 := n9_; have HB := n10_; clear n0_ n1_ n2_ n3_ n4_ n5_ n6_ n7_ n8_ n9_ n10_; (try clear hb); (try clear hb2); (try clear hk); (try clear hi)))
                              go_meet
                              case rel => exact ⟨_, ((t347 != t299)), (by first | rfl | (simp; done) | (simp [*]; done)), H', ⟨by have := HJ17.out; have := HJ55.out; first | omega | exact Nat.le_refl _⟩, ⟨by (try simp only [hl310000_55]); (try simp only [hl310001_55]); (with_reducible repeat (first | apply Kd.R_alloc | apply Kd.R_drewN | apply Kd.R_drew)); exact Kd.R_mono HO_14.out (fun _ hk => trivial)⟩, ⟨by (try simp only [hl310000_55]); (try simp only [hl310001_55]); (with_reducible repeat (first | apply Kd.R_alloc | apply Kd.R_drewN | apply Kd.R_drew)); exact Kd.R_mono HO_310000.out (fun _ hk => hk.1.1.1)⟩, ⟨by (try simp only [hl310000_55]); (try simp only [hl310001_55]); (with_reducible repeat (first | apply Kd.R_alloc | apply Kd.R_drewN | apply Kd.R_drew)); exact Kd.R_mono HO_310001.out (fun _ hk => hk.1.1.1)⟩, ⟨by (try simp only [hl310000_55]); (try simp only [hl310001_55]); (with_reducible repeat (first | refine blk_drewN ?_ _ | refine blk_drew ?_ | refine blk_alloc ?_ _)); exact BK285.out⟩, ⟨by (try simp only [hl310000_55]); (try simp only [hl310001_55]); (with_reducible repeat (first | refine blk_drewN ?_ _ | refine blk_drew ?_ | refine blk_alloc ?_ _)); exact BK309.out⟩, ⟨by repeat (first | (with_reducible first | exact HB.out | apply below_alloc | apply pw_below_drewN | apply below_drew1 | refine below_set ?_ GE285.out | refine below_set ?_ GE309.out) | exact HB.out)⟩⟩
                            · replace c98 := Bool.eq_false_iff.mpr c98
                              subst c98
                              have H1 : (laws_FnExactMakeSchedule.j2 kj55 t333 t332 true) = some r := by rw [if_neg (show ¬ (false = true) by decide)] at H; exact H
                              clear H
                              have H := H1
                              clear H1
                              have H' := Aside0.mk H
                              clear H
                              obtain ⟨Ao102, co102, eo102⟩ := Kd.R_slice HO346.out
                              subst eo102
                              obtain ⟨Ao103, co103, eo103⟩ := Kd.R_slice HO_10.out
                              subst eo103
                              go_wp2_with (first | ((with_reducible refine gate_callee (f := 18) rfl ?_); refine goesL_ (some 112) rfl rfl Try.func18 (by kernel_rfl) rfl #[.slice Ao102 t344.length co102, .slice Ao103 t296.length co103] rfl (by (try simp only [List.map_toArray, List.map_cons, List.map_nil]); first | done | rfl | (simp only [List.length_drop, List.length_take]; rfl)) ?_; (with_reducible refine (laws_eqPeriodS.calls kj55 _ _ t344 _ _ t296 false _ ?side1 ?side2 ?side3 ?side4 A97.out).mono ?_); (case side1 => repeat (first | exact (Kd.R_reads' HO346.out).2.2 | (with_reducible refine Kd.C_alloc ?_ _) | (with_reducible refine Kd.C_drewN ?_ _) | (with_reducible refine Kd.C_drew ?_))); (case side2 => exact (Kd.R_reads' HO346.out).2.1); (case side3 => repeat (first | exact (Kd.R_reads' HO_10.out).2.2 | (with_reducible refine Kd.C_alloc ?_ _) | (with_reducible refine Kd.C_drewN ?_ _) | (with_reducible refine Kd.C_drew ?_))); (case side4 => exact (Kd.R_reads' HO_10.out).2.1); rintro e w104 ⟨rfl, hb⟩; refine ⟨_, rfl, ?_⟩; have n0_ := Aside0.mk (Kd.R_below (by (with_reducible repeat (first | apply Kd.R_alloc | apply Kd.R_drewN | apply Kd.R_drew)); exact HO_10.out) hb); have n1_ := Aside0.mk (Kd.R_below (by (with_reducible repeat (first | apply Kd.R_alloc | apply Kd.R_drewN | apply Kd.R_drew)); exact HO_14.out) hb); have n2_ := Aside0.mk (Kd.R_below (by (with_reducible repeat (first | apply Kd.R_alloc | apply Kd.R_drewN | apply Kd.R_drew)); exact HO_310000.out) hb); have n3_ := Aside0.mk (Kd.R_below (by (with_reducible repeat (first | apply Kd.R_alloc | apply Kd.R_drewN | apply Kd.R_drew)); exact HO_310001.out) hb); have n4_ := Aside0.mk (Kd.R_below (by (with_reducible repeat (first | apply Kd.R_alloc | apply Kd.R_drewN | apply Kd.R_drew)); exact HO337.out) hb); have n5_ := Aside0.mk (Kd.R_below (by (with_reducible repeat (first | apply Kd.R_alloc | apply Kd.R_drewN | apply Kd.R_drew)); exact HO340.out) hb); have n6_ := Aside0.mk (Kd.R_below (by (with_reducible repeat (first | apply Kd.R_alloc | apply Kd.R_drewN | apply Kd.R_drew)); exact HO343.out) hb); have n7_ := Aside0.mk (Kd.R_below (by (with_reducible repeat (first | apply Kd.R_alloc | apply Kd.R_drewN | apply Kd.R_drew)); exact HO346.out) hb); have n8_ := Aside0.mk (blk_below (g := gb285) (o := .cells #[.slice A1_0 l1_0.length c1_0, .slice A1_1 l1_1.length c1_1] 45 (0, 0)) (by (with_reducible repeat (first | refine blk_drewN ?_ _ | refine blk_drew ?_ | refine blk_alloc ?_ _)); exact BK285.out) hb); have n9_ := Aside0.mk (blk_below (g := gb309) (o := .cells #[.slice Ao33 t329.length co33, .slice Ao36 t330.length co36] 48 (0, 0)) (by (with_reducible repeat (first | refine blk_drewN ?_ _ | refine blk_drew ?_ | refine blk_alloc ?_ _)); exact BK309.out) hb); have n10_ := Aside0.mk (below_step (by repeat (first | (with_reducible first | exact HB.out | apply below_alloc | apply pw_below_drewN | apply below_drew1 | refine below_set ?_ GE285.out | refine below_set ?_ GE309.out) | exact HB.out)) hb); clear HO_10; clear HO_14; clear HO_310000; clear HO_310001; clear HO337; clear HO340; clear HO343; clear HO346; clear BK285; clear BK309; clear HB; have HO_10 := n0_; have HO_14 := n1_; have HO_310000 := n2_; have HO_310001 := n3_; have HO337 := n4_; have HO340 := n5_; have HO343 := n6_; have HO346 := n7_; have BK285 := n8_; have BK309 := n9_; have HB := n10_; clear n0_ n1_ n2_ n3_ n4_ n5_ n6_ n7_ n8_ n9_ n10_; (try clear hb); (try clear hb2); (try clear hk); (try clear hi)))
                              go_meet
                              case rel => exact ⟨_, (true), (by first | rfl | (simp; done) | (simp [*]; done)), H', ⟨by have := HJ17.out; have := HJ55.out; first | omega | exact Nat.le_refl _⟩, ⟨by (try simp only [hl310000_55]); (try simp only [hl310001_55]); (with_reducible repeat (first | apply Kd.R_alloc | apply Kd.R_drewN | apply Kd.R_drew)); exact Kd.R_mono HO_14.out (fun _ hk => trivial)⟩, ⟨by (try simp only [hl310000_55]); (try simp only [hl310001_55]); (with_reducible repeat (first | apply Kd.R_alloc | apply Kd.R_drewN | apply Kd.R_drew)); exact Kd.R_mono HO_310000.out (fun _ hk => hk.1.1.1)⟩, ⟨by (try simp only [hl310000_55]); (try simp only [hl310001_55]); (with_reducible repeat (first | apply Kd.R_alloc | apply Kd.R_drewN | apply Kd.R_drew)); exact Kd.R_mono HO_310001.out (fun _ hk => hk.1.1.1)⟩, ⟨by (try simp only [hl310000_55]); (try simp only [hl310001_55]); (with_reducible repeat (first | refine blk_drewN ?_ _ | refine blk_drew ?_ | refine blk_alloc ?_ _)); exact BK285.out⟩, ⟨by (try simp only [hl310000_55]); (try simp only [hl310001_55]); (with_reducible repeat (first | refine blk_drewN ?_ _ | refine blk_drew ?_ | refine blk_alloc ?_ _)); exact BK309.out⟩, ⟨by repeat (first | (with_reducible first | exact HB.out | apply below_alloc | apply pw_below_drewN | apply below_drew1 | refine below_set ?_ GE285.out | refine below_set ?_ GE309.out) | exact HB.out)⟩⟩
                          case rest =>
                            clear HC87
                            try clear c1
                            try clear c2
                            try clear p2
                            try clear c3
                            try clear c4
                            try clear c5
                            try clear c5b0
                            try clear c5b1
                            try clear c6
                            try clear c7
                            try clear c8
                            try clear c8b0
                            try clear c9
                            try clear c18
                            try clear c22
                            try clear c24
                            try clear c27
                            try clear c28
                            try clear c33
                            try clear c34
                            try clear c35
                            try clear c36
                            try clear c37
                            try clear c38
                            try clear c39
                            try clear c40
                            try clear c47
                            try clear c50
                            try clear c53
                            try clear c65
                            try clear c68
                            try clear c68b0
                            try clear c70
                            try clear c77
                            try clear c80
                            try clear c80b0
                            try clear c83
                            try clear c83b0
                            try clear c83b1
                            try clear c98
                            try clear hcz10_0
                            try clear hcz10_1
                            try clear hcz20_0
                            try clear hcz20_1
                            try clear hcz30_0
                            try clear hcz30_1
                            try clear hcz35_0
                            try clear hcz35_1
                            try clear hcz66_0
                            try clear hcz66_1
                            try clear hfz10_0
                            try clear hfz10_1
                            try clear hfz20_0
                            try clear hfz20_1
                            try clear hfz30_0
                            try clear hfz30_1
                            try clear hfz35_0
                            try clear hfz35_1
                            try clear hfz66_0
                            try clear hfz66_1
                            try clear p2
                            obtain ⟨kq, x118_86, rfl, HA, HJ86, HO_14, HO_310000, HO_310001, BK285, BK309, HB⟩ := hcut
                            have hl14_86 := (Kd.R_reads' HO_14.out).1
                            rw [hl14_86] at HO_14
                            (try simp only [hl14_86])
                            (try simp only [hl14_86] at BK285)
                            (try simp only [hl14_86] at BK309)
                            (try simp only [hl14_86] at HO_310000)
                            (try simp only [hl14_86] at HO_310001)
                            cases kq with
                            | zero => exact absurd HA.out (by simp [laws_FnExactMakeSchedule.j2])
                            | succ kj86 =>
                              have H := HA.out
                              clear HA
                              simp only [laws_FnExactMakeSchedule.j2] at H
                              by_cases c105 : x118_86 = true
                              · subst c105
                                have H1 : (some false) = some r := by rw [if_pos rfl] at H; exact H
                                clear H
                                have H := H1
                                clear H1
                                obtain rfl := Option.some.inj H
                                go_wp2
                                go_ret
                                exact ⟨by first | rfl | (simp only [Int.mul_zero, show wrap64 0 = 0 from by unfold wrap64; omega]; rfl) | (simp [errW_none, errW_some] <;> rfl) | (simp [*, errW_none, errW_some] <;> rfl), by repeat (first | (with_reducible first | exact HB.out | apply below_alloc | apply pw_below_drewN | apply below_drew1 | refine below_set ?_ GE285.out | refine below_set ?_ GE309.out) | exact HB.out)⟩
                              · replace c105 := Bool.eq_false_iff.mpr c105
                                subst c105
                                have H1 : ((laws_heldPeriodS.f kj86 t333 1).bind fun t349 => (if t349 < 0 then (some false) else (if t349 = t332 then (some true) else (some false)))) = some r := by rw [if_neg (show ¬ (false = true) by decide)] at H; exact H
                                clear H
                                have H := H1
                                clear H1
                                replace H := Option.bind_eq_some_iff.mp H
                                obtain ⟨t349, A1060, H⟩ := H
                                replace H : (if t349 < 0 then (some false) else (if t349 = t332 then (some true) else (some false))) = some r := H
                                have A106 := Aside0.mk A1060
                                clear A1060
                                by_cases c107 : t349 < 0
                                · rw [if_pos c107] at H
                                  have c107b0 : decide (t349 < 0) = true := decide_eq_true c107
                                  clear c107
                                  obtain rfl := Option.some.inj H
                                  go_wp2_with (first | ((with_reducible refine gate_callee (f := 28) rfl ?_); refine goesL_ (some 121) rfl rfl Try.func28 (by kernel_rfl) rfl #[.slice Ao88 t333.length co88, .int .i64 1] rfl (by (try simp only [List.map_toArray, List.map_cons, List.map_nil]); first | done | rfl | (simp only [List.length_drop, List.length_take]; rfl)) ?_; (with_reducible refine (laws_heldPeriodS.calls kj86 _ _ t333 1 t349 _ ?side1 ?side2 A106.out).mono ?_); (case side1 => repeat (first | exact (Kd.R_reads' HO_14.out).2.2 | (with_reducible refine Kd.C_alloc ?_ _) | (with_reducible refine Kd.C_drewN ?_ _) | (with_reducible refine Kd.C_drew ?_))); (case side2 => exact (Kd.R_reads' HO_14.out).2.1); rintro e w' ⟨rfl, ⟨nd, rfl⟩⟩; refine ⟨_, rfl, ?_⟩))
                                  go_ret
                                  exact ⟨by first | rfl | (simp only [Int.mul_zero, show wrap64 0 = 0 from by unfold wrap64; omega]; rfl) | (simp [errW_none, errW_some] <;> rfl) | (simp [*, errW_none, errW_some] <;> rfl), by repeat (first | (with_reducible first | exact HB.out | apply below_alloc | apply pw_below_drewN | apply below_drew1 | refine below_set ?_ GE285.out | refine below_set ?_ GE309.out) | exact HB.out)⟩
                                · rw [if_neg c107] at H
                                  have c107b0 : decide (t349 < 0) = false := decide_eq_false c107
                                  clear c107
                                  by_cases c108 : t349 = t332
                                  · rw [if_pos c108] at H
                                    have c108b0 : (t349 == t332) = true := beq_iff_eq.mpr c108
                                    have c108b1 : (t349 != t332) = false := bne_eq_false_iff_eq.mpr c108
                                    clear c108
                                    obtain rfl := Option.some.inj H
                                    go_wp2_with (first | ((with_reducible refine gate_callee (f := 28) rfl ?_); refine goesL_ (some 121) rfl rfl Try.func28 (by kernel_rfl) rfl #[.slice Ao88 t333.length co88, .int .i64 1] rfl (by (try simp only [List.map_toArray, List.map_cons, List.map_nil]); first | done | rfl | (simp only [List.length_drop, List.length_take]; rfl)) ?_; (with_reducible refine (laws_heldPeriodS.calls kj86 _ _ t333 1 t349 _ ?side1 ?side2 A106.out).mono ?_); (case side1 => repeat (first | exact (Kd.R_reads' HO_14.out).2.2 | (with_reducible refine Kd.C_alloc ?_ _) | (with_reducible refine Kd.C_drewN ?_ _) | (with_reducible refine Kd.C_drew ?_))); (case side2 => exact (Kd.R_reads' HO_14.out).2.1); rintro e w' ⟨rfl, ⟨nd, rfl⟩⟩; refine ⟨_, rfl, ?_⟩))
                                    go_ret
                                    exact ⟨by first | rfl | (simp only [Int.mul_zero, show wrap64 0 = 0 from by unfold wrap64; omega]; rfl) | (simp [errW_none, errW_some] <;> rfl) | (simp [*, errW_none, errW_some] <;> rfl), by repeat (first | (with_reducible first | exact HB.out | apply below_alloc | apply pw_below_drewN | apply below_drew1 | refine below_set ?_ GE285.out | refine below_set ?_ GE309.out) | exact HB.out)⟩
                                  · rw [if_neg c108] at H
                                    have c108b0 : (t349 == t332) = false := beq_eq_false_iff_ne.mpr c108
                                    have c108b1 : (t349 != t332) = true := bne_iff_ne.mpr c108
                                    obtain rfl := Option.some.inj H
                                    go_wp2_with (first | ((with_reducible refine gate_callee (f := 28) rfl ?_); refine goesL_ (some 121) rfl rfl Try.func28 (by kernel_rfl) rfl #[.slice Ao88 t333.length co88, .int .i64 1] rfl (by (try simp only [List.map_toArray, List.map_cons, List.map_nil]); first | done | rfl | (simp only [List.length_drop, List.length_take]; rfl)) ?_; (with_reducible refine (laws_heldPeriodS.calls kj86 _ _ t333 1 t349 _ ?side1 ?side2 A106.out).mono ?_); (case side1 => repeat (first | exact (Kd.R_reads' HO_14.out).2.2 | (with_reducible refine Kd.C_alloc ?_ _) | (with_reducible refine Kd.C_drewN ?_ _) | (with_reducible refine Kd.C_drew ?_))); (case side2 => exact (Kd.R_reads' HO_14.out).2.1); rintro e w' ⟨rfl, ⟨nd, rfl⟩⟩; refine ⟨_, rfl, ?_⟩))
                                    go_ret
                                    exact ⟨by first | rfl | (simp only [Int.mul_zero, show wrap64 0 = 0 from by unfold wrap64; omega]; rfl) | (simp [errW_none, errW_some] <;> rfl) | (simp [*, errW_none, errW_some] <;> rfl), by repeat (first | (with_reducible first | exact HB.out | apply below_alloc | apply pw_below_drewN | apply below_drew1 | refine below_set ?_ GE285.out | refine below_set ?_ GE309.out) | exact HB.out)⟩
                        · rw [if_neg c83] at H
                          have c83b0 : (t334 == t332) = false := beq_eq_false_iff_ne.mpr c83
                          have c83b1 : (t334 != t332) = true := bne_iff_ne.mpr c83
                          obtain rfl := Option.some.inj H
                          obtain ⟨Ao109, co109, eo109⟩ := Kd.R_slice HO_14.out
                          subst eo109
                          go_wp2_with (first | ((with_reducible refine gate_callee (f := 27) rfl ?_); refine goesL_ (some 91) rfl rfl Try.func27 (by kernel_rfl) rfl #[.slice Ao109 t310.length co109, .int .i64 1] rfl (by (try simp only [List.map_toArray, List.map_cons, List.map_nil]); first | done | rfl | (simp only [List.length_drop, List.length_take]; rfl)) ?_; (with_reducible refine (laws_markPeriodS.calls kj55 (fun k_ => some k_ = (.slice Ao109 t310.length co109 : Value).ownBlock) (.slice Ao109 t310.length co109) t310 1 t332 t333 w _ ?side1 ?side2 A78.out).mono ?_); (case side1 => repeat (first | (with_reducible first | exact HB.out | apply below_alloc | apply pw_below_drewN | apply below_drew1 | refine below_set ?_ GE285.out | refine below_set ?_ GE309.out) | exact HB.out)); (case side2 => exact Kd.R_tight rfl HO_14.out); rintro e w110 ⟨rfl, hy0, hb, hkp⟩; refine ⟨_, rfl, ?_⟩; have n0_ := Aside0.mk (Kd.R_mono (ok' := fun k_ => some k_ ≠ (.slice Ao109 t310.length co109 : Value).ownBlock) (Kd.R_keptB (HO_10.out) hkp (fun k_ hk_ hs_ => (hk_) hs_)) (fun k_ hk_ => hk_.1)); have n1_ := Aside0.mk (Kd.R_reok rfl hy0 (fun k_ e_ => HO_14.out.1 k_ e_)); have n2_ := Aside0.mk (Kd.R_mono (ok' := fun k_ => some k_ ≠ (.slice Ao36 t330.length co36 : Value).ownBlock) (Kd.R_keptB ((Kd.R_apart' HO_310000.out (Kd.R_typed HO_14.out) (by decide))) hkp (fun k_ hk_ hs_ => (hk_.2) hs_)) (fun k_ hk_ => hk_.1.1)); have n3_ := Aside0.mk (Kd.R_mono (ok' := fun k_ => some k_ ≠ (.slice Ao33 t329.length co33 : Value).ownBlock) (Kd.R_keptB ((Kd.R_apart' HO_310001.out (Kd.R_typed HO_14.out) (by decide))) hkp (fun k_ hk_ hs_ => (hk_.2) hs_)) (fun k_ hk_ => hk_.1.1)); have n4_ := Aside0.mk (blk_kept (by (with_reducible repeat (first | refine blk_drewN ?_ _ | refine blk_drew ?_ | refine blk_alloc ?_ _)); exact BK285.out) hkp (fun hs_ => (fun e_ => (Kd.R_ne HO_14.out BK285.out (by decide)) e_) hs_)); have n5_ := Aside0.mk (blk_kept (by (with_reducible repeat (first | refine blk_drewN ?_ _ | refine blk_drew ?_ | refine blk_alloc ?_ _)); exact BK309.out) hkp (fun hs_ => (fun e_ => (Kd.R_ne HO_14.out BK309.out (by decide)) e_) hs_)); have n6_ := Aside0.mk (hb); clear HO_10; clear HO_14; clear HO_310000; clear HO_310001; clear BK285; clear BK309; clear HB; have HO_10 := n0_; have HO_14 := n1_; have HO_310000 := n2_; have HO_310001 := n3_; have BK285 := n4_; have BK309 := n5_; have HB := n6_; clear n0_ n1_ n2_ n3_ n4_ n5_ n6_; (try clear hb); (try clear hkp); (try clear hy0)) | ((with_reducible refine gate_callee (f := 28) rfl ?_); refine goesL_ (some 94) rfl rfl Try.func28 (by kernel_rfl) rfl #[.slice Ao109 t333.length co109, .int .i64 1] rfl (by (try simp only [List.map_toArray, List.map_cons, List.map_nil]); first | done | (rw [show t333.length = t310.length from (Kd.R_reads' HO_14.out).1.symm] <;> rfl) | rfl | (simp only [List.length_drop, List.length_take]; rfl)) ?_; (with_reducible refine (laws_heldPeriodS.calls kj55 _ _ t333 1 t334 _ ?side1 ?side2 A79.out).mono ?_); (case side1 => repeat (first | exact (Kd.R_reads' HO_14.out).2.2 | (with_reducible refine Kd.C_alloc ?_ _) | (with_reducible refine Kd.C_drewN ?_ _) | (with_reducible refine Kd.C_drew ?_))); (case side2 => rw [show t333.length = t310.length from (Kd.R_reads' HO_14.out).1.symm]; exact (Kd.R_reads' HO_14.out).2.1); rintro e w' ⟨rfl, ⟨nd, rfl⟩⟩; refine ⟨_, rfl, ?_⟩))
                          go_ret
                          exact ⟨by first | rfl | (simp only [Int.mul_zero, show wrap64 0 = 0 from by unfold wrap64; omega]; rfl) | (simp [errW_none, errW_some] <;> rfl) | (simp [*, errW_none, errW_some] <;> rfl), by repeat (first | (with_reducible first | exact HB.out | apply below_alloc | apply pw_below_drewN | apply below_drew1 | refine below_set ?_ GE285.out | refine below_set ?_ GE309.out) | exact HB.out)⟩
              · replace c53 := Bool.eq_false_iff.mpr c53
                subst c53
                have H1 : (some false) = some r := by rw [if_neg (show ¬ (false = true) by decide)] at H; exact H
                clear H
                have H := H1
                clear H1
                obtain rfl := Option.some.inj H
                try go_wp2_with (first | ((with_reducible refine gate_callee (f := 22) rfl ?_); refine goesL_ (some 62) rfl rfl Try.func22 (by kernel_rfl) rfl #[.slice A0 l0.length c0] rfl (by (try simp only [List.map_toArray, List.map_cons, List.map_nil]); first | done | rfl | (simp only [List.length_drop, List.length_take]; rfl)) ?_; (with_reducible refine (laws_toIntS.calls kj17 _ _ l0 t315 _ ?side1 ?side2 A48.out).mono ?_); (case side1 => repeat (first | exact (Kd.C_below HR0.out HB.out) | (with_reducible refine Kd.C_alloc ?_ _) | (with_reducible refine Kd.C_drewN ?_ _) | (with_reducible refine Kd.C_drew ?_))); (case side2 => exact HC0.out); rintro e w111 ⟨v316, rfl, ho0, hb⟩; refine ⟨_, rfl, ?_⟩; have n0_ := Aside0.mk (Kd.R_below (by (with_reducible repeat (first | apply Kd.R_alloc | apply Kd.R_drewN | apply Kd.R_drew)); exact HO_10.out) hb); have n1_ := Aside0.mk (Kd.R_elder' (by (with_reducible repeat (first | apply Kd.R_alloc | apply Kd.R_drewN | apply Kd.R_drew)); exact HO_12.out) (Kd.R_base ho0) hb); have n2_ := Aside0.mk (Kd.R_below (by (with_reducible repeat (first | apply Kd.R_alloc | apply Kd.R_drewN | apply Kd.R_drew)); exact HO_14.out) hb); have n3_ := Aside0.mk (Kd.R_elder' (by (with_reducible repeat (first | apply Kd.R_alloc | apply Kd.R_drewN | apply Kd.R_drew)); exact HO_310000.out) (Kd.R_base ho0) hb); have n4_ := Aside0.mk (Kd.R_elder' (by (with_reducible repeat (first | apply Kd.R_alloc | apply Kd.R_drewN | apply Kd.R_drew)); exact HO_310001.out) (Kd.R_base ho0) hb); have n5_ := Aside0.mk (Kd.R_lower (Kd.R_new' (Kd.R_new' (Kd.R_new' ho0 (Kd.R_lt (by (with_reducible repeat (first | apply Kd.R_alloc | apply Kd.R_drewN | apply Kd.R_drew)); exact HO_12.out))) (Kd.R_lt (by (with_reducible repeat (first | apply Kd.R_alloc | apply Kd.R_drewN | apply Kd.R_drew)); exact HO_310000.out))) (Kd.R_lt (by (with_reducible repeat (first | apply Kd.R_alloc | apply Kd.R_drewN | apply Kd.R_drew)); exact HO_310001.out))) (below_size (by repeat (first | (with_reducible first | exact HB.out | apply below_alloc | apply pw_below_drewN | apply below_drew1 | refine below_set ?_ GE285.out | refine below_set ?_ GE309.out) | exact HB.out)))); have n6_ := Aside0.mk (blk_below (g := gb285) (o := .cells #[.slice A1_0 l1_0.length c1_0, .slice A1_1 l1_1.length c1_1] 45 (0, 0)) (by (with_reducible repeat (first | refine blk_drewN ?_ _ | refine blk_drew ?_ | refine blk_alloc ?_ _)); exact BK285.out) hb); have n7_ := Aside0.mk (blk_below (g := gb309) (o := .cells #[.slice Ao33 t303.length co33, .slice Ao36 t306.length co36] 48 (0, 0)) (by (with_reducible repeat (first | refine blk_drewN ?_ _ | refine blk_drew ?_ | refine blk_alloc ?_ _)); exact BK309.out) hb); have n8_ := Aside0.mk (below_step (by repeat (first | (with_reducible first | exact HB.out | apply below_alloc | apply pw_below_drewN | apply below_drew1 | refine below_set ?_ GE285.out | refine below_set ?_ GE309.out) | exact HB.out)) hb); clear HO_10; clear HO_12; clear HO_14; clear HO_310000; clear HO_310001; clear BK285; clear BK309; clear HB; have HO_10 := n0_; have HO_12 := n1_; have HO_14 := n2_; have HO_310000 := n3_; have HO_310001 := n4_; have HO317 := n5_; have BK285 := n6_; have BK309 := n7_; have HB := n8_; clear n0_ n1_ n2_ n3_ n4_ n5_ n6_ n7_ n8_; (try clear hb); (try clear hb2); (try clear hk); (try clear hi); (try clear ho0); obtain ⟨Ao112, co112, eo112⟩ := Kd.R_slice HO317.out; subst eo112) | ((with_reducible refine gate_callee (f := 24) rfl ?_); refine goesL_ (some 63) rfl rfl Try.func24 (by kernel_rfl) rfl #[.slice Ao37 t300.length co37, .slice Ao112 t315.length co112] rfl (by (try simp only [List.map_toArray, List.map_cons, List.map_nil]); first | done | rfl | (simp only [List.length_drop, List.length_take]; rfl)) ?_; (with_reducible refine (laws_eqIntS.calls kj17 _ _ t300 _ _ t315 true _ ?side1 ?side2 ?side3 ?side4 A49.out).mono ?_); (case side1 => repeat (first | exact (Kd.R_reads' HO_12.out).2.2 | (with_reducible refine Kd.C_alloc ?_ _) | (with_reducible refine Kd.C_drewN ?_ _) | (with_reducible refine Kd.C_drew ?_))); (case side2 => exact (Kd.R_reads' HO_12.out).2.1); (case side3 => repeat (first | exact (Kd.R_reads' HO317.out).2.2 | (with_reducible refine Kd.C_alloc ?_ _) | (with_reducible refine Kd.C_drewN ?_ _) | (with_reducible refine Kd.C_drew ?_))); (case side4 => exact (Kd.R_reads' HO317.out).2.1); rintro e w' ⟨rfl, ⟨nd, rfl⟩⟩; refine ⟨_, rfl, ?_⟩))
                (try (rw [drewN_self w111]; generalize hq_ : World.drewN w111 _ = w111; have n0_ : Aside0 (Kd.R (Kd.int .i64) 3 w111 w.heap.size (fun k_ => some k_ ≠ (.slice Ao37 t300.length co37 : Value).ownBlock ∧ some k_ ≠ (.slice Ao33 t303.length co33 : Value).ownBlock ∧ some k_ ≠ (.slice Ao36 t306.length co36 : Value).ownBlock) (.slice Ao112 t315.length co112) t315) := ⟨by rw [← hq_]; exact (by (with_reducible repeat (first | apply Kd.R_alloc | apply Kd.R_drewN | apply Kd.R_drew)); exact Kd.R_mono HO317.out (fun _ hk => ⟨hk.1.1.2, ⟨hk.1.2, hk.2⟩⟩))⟩; have n1_ : Aside0 (Kd.R k60 60 w111 w.heap.size (fun k_ => some k_ ≠ (v311 : Value).ownBlock) v297 t296) := ⟨by rw [← hq_]; exact (by (with_reducible repeat (first | apply Kd.R_alloc | apply Kd.R_drewN | apply Kd.R_drew)); exact HO_10.out)⟩; have n2_ : Aside0 (Kd.R (Kd.int .i64) 3 w111 w.heap.size (fun k_ => some k_ ≠ (.slice Ao112 t315.length co112 : Value).ownBlock ∧ some k_ ≠ (.slice Ao33 t303.length co33 : Value).ownBlock ∧ some k_ ≠ (.slice Ao36 t306.length co36 : Value).ownBlock) (.slice Ao37 t300.length co37) t300) := ⟨by rw [← hq_]; exact (by (with_reducible repeat (first | apply Kd.R_alloc | apply Kd.R_drewN | apply Kd.R_drew)); exact Kd.R_mono HO_12.out (fun _ hk => ⟨hk.2, ⟨hk.1.1, hk.1.2⟩⟩))⟩; have n3_ : Aside0 (Kd.R k60 60 w111 w.heap.size (fun k_ => some k_ ≠ (v297 : Value).ownBlock) v311 t310) := ⟨by rw [← hq_]; exact (by (with_reducible repeat (first | apply Kd.R_alloc | apply Kd.R_drewN | apply Kd.R_drew)); exact HO_14.out)⟩; have n4_ : Aside0 (Kd.R (Kd.int .i64) 3 w111 w.heap.size (fun k_ => some k_ ≠ (.slice Ao112 t315.length co112 : Value).ownBlock ∧ some k_ ≠ (.slice Ao37 t300.length co37 : Value).ownBlock ∧ some k_ ≠ (.slice Ao36 t306.length co36 : Value).ownBlock) (.slice Ao33 t303.length co33) t303) := ⟨by rw [← hq_]; exact (by (with_reducible repeat (first | apply Kd.R_alloc | apply Kd.R_drewN | apply Kd.R_drew)); exact Kd.R_mono HO_310000.out (fun _ hk => ⟨hk.2, ⟨hk.1.1, hk.1.2⟩⟩))⟩; have n5_ : Aside0 (Kd.R (Kd.int .i64) 3 w111 w.heap.size (fun k_ => some k_ ≠ (.slice Ao112 t315.length co112 : Value).ownBlock ∧ some k_ ≠ (.slice Ao37 t300.length co37 : Value).ownBlock ∧ some k_ ≠ (.slice Ao33 t303.length co33 : Value).ownBlock) (.slice Ao36 t306.length co36) t306) := ⟨by rw [← hq_]; exact (by (with_reducible repeat (first | apply Kd.R_alloc | apply Kd.R_drewN | apply Kd.R_drew)); exact Kd.R_mono HO_310001.out (fun _ hk => ⟨hk.2, ⟨hk.1.1, hk.1.2⟩⟩))⟩; have n6_ : Aside0 (w111.heap[gb285]? = some (.cells #[.slice A1_0 l1_0.length c1_0, .slice A1_1 l1_1.length c1_1] 45 (0, 0))) := ⟨by rw [← hq_]; exact (by (with_reducible repeat (first | refine blk_drewN ?_ _ | refine blk_drew ?_ | refine blk_alloc ?_ _)); exact BK285.out)⟩; have n7_ : Aside0 (w111.heap[gb309]? = some (.cells #[.slice Ao33 t303.length co33, .slice Ao36 t306.length co36] 48 (0, 0))) := ⟨by rw [← hq_]; exact (by (with_reducible repeat (first | refine blk_drewN ?_ _ | refine blk_drew ?_ | refine blk_alloc ?_ _)); exact BK309.out)⟩; have n8_ : Aside0 (Below w.heap.size w w111) := ⟨by rw [← hq_]; exact (by repeat (first | (with_reducible first | exact HB.out | apply below_alloc | apply pw_below_drewN | apply below_drew1 | refine below_set ?_ GE285.out | refine below_set ?_ GE309.out) | exact HB.out))⟩; clear HO317 HO_10 HO_12 HO_14 HO_310000 HO_310001 BK285 BK309 HB hq_; have HO317 := n0_; have HO_10 := n1_; have HO_12 := n2_; have HO_14 := n3_; have HO_310000 := n4_; have HO_310001 := n5_; have BK285 := n6_; have BK309 := n7_; have HB := n8_; clear n0_ n1_ n2_ n3_ n4_ n5_ n6_ n7_ n8_))
                have n0_ := Aside0.mk (Kd.R_drew HO_10.out)
                have n1_ := Aside0.mk (Kd.R_drew HO_12.out)
                have n2_ := Aside0.mk (Kd.R_drew HO_14.out)
                have n3_ := Aside0.mk (Kd.R_drew HO_310000.out)
                have n4_ := Aside0.mk (Kd.R_drew HO_310001.out)
                have n5_ := Aside0.mk (Kd.R_drew HO317.out)
                have n6_ := Aside0.mk (blk_drew BK285.out)
                have n7_ := Aside0.mk (blk_drew BK309.out)
                have n8_ := Aside0.mk (below_drew1 HB.out)
                clear HO_10
                clear HO_12
                clear HO_14
                clear HO_310000
                clear HO_310001
                clear HO317
                clear BK285
                clear BK309
                clear HB
                have HO_10 := n0_
                have HO_12 := n1_
                have HO_14 := n2_
                have HO_310000 := n3_
                have HO_310001 := n4_
                have HO317 := n5_
                have BK285 := n6_
                have BK309 := n7_
                have HB := n8_
                clear n0_ n1_ n2_ n3_ n4_ n5_ n6_ n7_ n8_
                refine start_ (n := 5) (S := fun w' => w'.cell? ⟨gb309, 0, none⟩ = some (.slice Ao33 t303.length co33) ∧ w'.cell? ⟨gb309, 1, none⟩ = some (.slice Ao36 t306.length co36) ∧ w'.cell? ⟨gb285, 0, none⟩ = some (.slice A1_0 l1_0.length c1_0) ∧ w'.cell? ⟨gb285, 1, none⟩ = some (.slice A1_1 l1_1.length c1_1)) (ds := []) #[false, false, false, false, false] (by kernel_rfl) rfl rfl ⟨(blk_cell BK309.out 0).trans rfl, (blk_cell BK309.out 1).trans rfl, (blk_cell BK285.out 0).trans rfl, (blk_cell BK285.out 1).trans rfl⟩ (fun hHeld => ?_)
                generalize w111.drew = w113 at HO_10 HO_12 HO_14 HO_310000 HO_310001 HO317 BK285 BK309 HB hHeld ⊢
                refine take_ (i := 0) (N := some 65) (v := ?_) (a' := ?_) #[true, false, false, false, false] rfl rfl (by kernel_rfl) (fun _ _ _ h => h) (Or.inl ⟨by rfl, ?_⟩) hHeld ?_ ?_
                rotate_left
                · rintro w' ⟨s0, s1, s2, s3⟩
                  go_simp
                  with_reducible rfl
                rotate_left
                · simp only [Act.put, List.setIfInBounds_toArray, List.set_cons_zero, List.set_cons_succ, i64_w, i32_w]
                  rfl
                refine take_ (i := 1) (N := some 66) (v := ?_) (a' := ?_) #[true, true, false, false, false] rfl rfl (by kernel_rfl) (fun _ _ _ h => h) (Or.inl ⟨by rfl, ?_⟩) hHeld ?_ ?_
                rotate_left
                · rintro w' ⟨s0, s1, s2, s3⟩
                  go_simp
                  with_reducible rfl
                rotate_left
                · simp only [Act.put, List.setIfInBounds_toArray, List.set_cons_zero, List.set_cons_succ, i64_w, i32_w]
                  rfl
                refine one_ (i := 2) (N := some 67) #[true, true, true, false, false] rfl rfl (by kernel_rfl) (by decide) (fun K hK => ?_)
                refine goes_ Try.func37 (by kernel_rfl) rfl #[.agg #[.slice A1_0 l1_0.length c1_0, .slice A1_1 l1_1.length c1_1]] (by rfl) rfl rfl (by (try simp only [List.map_toArray, List.map_cons, List.map_nil]); first | done | rfl | (simp only [List.length_drop, List.length_take]; rfl)) ?_
                with_reducible refine (laws_toCalendar.calls kj17 _ _ l1_0 _ _ l1_1 t319 t322 _ ?side1 ?side2 ?side3 ?side4 A51.out).mono ?_
                (case side1 => repeat (first | exact (Kd.C_below HR1_0.out HB.out) | (with_reducible refine Kd.C_alloc ?_ _) | (with_reducible refine Kd.C_drewN ?_ _) | (with_reducible refine Kd.C_drew ?_)))
                (case side2 => exact HC1_0.out)
                (case side3 => repeat (first | exact (Kd.C_below HR1_1.out HB.out) | (with_reducible refine Kd.C_alloc ?_ _) | (with_reducible refine Kd.C_drewN ?_ _) | (with_reducible refine Kd.C_drew ?_)))
                (case side4 => exact HC1_1.out)
                rintro e w114 ⟨v320, v323, rfl, ho0, ho1, hb⟩
                refine ⟨_, rfl, ?_⟩
                have n0_ := Aside0.mk (Kd.R_below (by (with_reducible repeat (first | apply Kd.R_alloc | apply Kd.R_drewN | apply Kd.R_drew)); exact HO_10.out) hb)
                have n1_ := Aside0.mk (Kd.R_mono (Kd.R_told (Kd.R_told (Kd.R_old (by (with_reducible repeat (first | apply Kd.R_alloc | apply Kd.R_drewN | apply Kd.R_drew)); exact HO_12.out) hb) (Kd.R_base ho0)) (Kd.R_base ho1)) (fun _ h_ => h_.1))
                have n2_ := Aside0.mk (Kd.R_below (by (with_reducible repeat (first | apply Kd.R_alloc | apply Kd.R_drewN | apply Kd.R_drew)); exact HO_14.out) hb)
                have n3_ := Aside0.mk (Kd.R_mono (Kd.R_told (Kd.R_told (Kd.R_old (by (with_reducible repeat (first | apply Kd.R_alloc | apply Kd.R_drewN | apply Kd.R_drew)); exact HO_310000.out) hb) (Kd.R_base ho0)) (Kd.R_base ho1)) (fun _ h_ => h_.1))
                have n4_ := Aside0.mk (Kd.R_mono (Kd.R_told (Kd.R_told (Kd.R_old (by (with_reducible repeat (first | apply Kd.R_alloc | apply Kd.R_drewN | apply Kd.R_drew)); exact HO_310001.out) hb) (Kd.R_base ho0)) (Kd.R_base ho1)) (fun _ h_ => h_.1))
                have n5_ := Aside0.mk (Kd.R_mono (Kd.R_told (Kd.R_told (Kd.R_old (by (with_reducible repeat (first | apply Kd.R_alloc | apply Kd.R_drewN | apply Kd.R_drew)); exact HO317.out) hb) (Kd.R_base ho0)) (Kd.R_base ho1)) (fun _ h_ => h_.1))
                have n6_ := Aside0.mk (Kd.R_lower (Kd.R_new' (Kd.R_new' (Kd.R_new' (Kd.R_new' ho0 (Kd.R_lt (by (with_reducible repeat (first | apply Kd.R_alloc | apply Kd.R_drewN | apply Kd.R_drew)); exact HO_12.out))) (Kd.R_lt (by (with_reducible repeat (first | apply Kd.R_alloc | apply Kd.R_drewN | apply Kd.R_drew)); exact HO_310000.out))) (Kd.R_lt (by (with_reducible repeat (first | apply Kd.R_alloc | apply Kd.R_drewN | apply Kd.R_drew)); exact HO_310001.out))) (Kd.R_lt (by (with_reducible repeat (first | apply Kd.R_alloc | apply Kd.R_drewN | apply Kd.R_drew)); exact HO317.out))) (below_size (by repeat (first | (with_reducible first | exact HB.out | apply below_alloc | apply pw_below_drewN | apply below_drew1 | refine below_set ?_ GE285.out | refine below_set ?_ GE309.out) | exact HB.out))))
                have n7_ := Aside0.mk (Kd.R_lower (Kd.R_new' (Kd.R_new' (Kd.R_new' (Kd.R_new' ho1 (Kd.R_lt (by (with_reducible repeat (first | apply Kd.R_alloc | apply Kd.R_drewN | apply Kd.R_drew)); exact HO_12.out))) (Kd.R_lt (by (with_reducible repeat (first | apply Kd.R_alloc | apply Kd.R_drewN | apply Kd.R_drew)); exact HO_310000.out))) (Kd.R_lt (by (with_reducible repeat (first | apply Kd.R_alloc | apply Kd.R_drewN | apply Kd.R_drew)); exact HO_310001.out))) (Kd.R_lt (by (with_reducible repeat (first | apply Kd.R_alloc | apply Kd.R_drewN | apply Kd.R_drew)); exact HO317.out))) (below_size (by repeat (first | (with_reducible first | exact HB.out | apply below_alloc | apply pw_below_drewN | apply below_drew1 | refine below_set ?_ GE285.out | refine below_set ?_ GE309.out) | exact HB.out))))
                have n8_ := Aside0.mk (blk_below (g := gb285) (o := .cells #[.slice A1_0 l1_0.length c1_0, .slice A1_1 l1_1.length c1_1] 45 (0, 0)) (by (with_reducible repeat (first | refine blk_drewN ?_ _ | refine blk_drew ?_ | refine blk_alloc ?_ _)); exact BK285.out) hb)
                have n9_ := Aside0.mk (blk_below (g := gb309) (o := .cells #[.slice Ao33 t303.length co33, .slice Ao36 t306.length co36] 48 (0, 0)) (by (with_reducible repeat (first | refine blk_drewN ?_ _ | refine blk_drew ?_ | refine blk_alloc ?_ _)); exact BK309.out) hb)
                have n10_ := Aside0.mk (below_step (by repeat (first | (with_reducible first | exact HB.out | apply below_alloc | apply pw_below_drewN | apply below_drew1 | refine below_set ?_ GE285.out | refine below_set ?_ GE309.out) | exact HB.out)) hb)
                clear HO_10
                clear HO_12
                clear HO_14
                clear HO_310000
                clear HO_310001
                clear HO317
                clear BK285
                clear BK309
                clear HB
                have HO_10 := n0_
                have HO_12 := n1_
                have HO_14 := n2_
                have HO_310000 := n3_
                have HO_310001 := n4_
                have HO317 := n5_
                have HO321 := n6_
                have HO324 := n7_
                have BK285 := n8_
                have BK309 := n9_
                have HB := n10_
                clear n0_ n1_ n2_ n3_ n4_ n5_ n6_ n7_ n8_ n9_ n10_
                (try clear hb)
                (try clear hb2)
                (try clear hk)
                (try clear hi)
                (try clear ho0)
                (try clear ho1)
                obtain ⟨Ao115, co115, eo115⟩ := Kd.R_slice HO321.out
                (first | subst eo115 | (injection eo115 with f1_ f2_ f3_; have f4_ := f1_.symm; have f5_ := f3_.symm; clear f1_ f2_ f3_; subst f4_; subst f5_))
                obtain ⟨Ao116, co116, eo116⟩ := Kd.R_slice HO324.out
                (first | subst eo116 | (injection eo116 with f1_ f2_ f3_; have f4_ := f1_.symm; have f5_ := f3_.symm; clear f1_ f2_ f3_; subst f4_; subst f5_))
                refine hK.out _ _ ⟨(blk_cell BK309.out 0).trans rfl, (blk_cell BK309.out 1).trans rfl, (blk_cell BK285.out 0).trans rfl, (blk_cell BK285.out 1).trans rfl⟩ (fun hHeld => ?_)
                clear hK K
                refine norm_ (a' := ?_) ?_ ?_
                rotate_left
                · show Act.put _ (some 67) _ = _
                  simp only [Act.put, List.setIfInBounds_toArray, List.set_cons_zero, List.set_cons_succ, i64_w, i32_w]
                  rfl
                refine one_ (i := 3) (N := some 68) #[true, true, true, true, false] rfl rfl (by kernel_rfl) (by decide) (fun K hK => ?_)
                refine goes_ Try.func39 (by kernel_rfl) rfl #[.agg #[.slice Ao33 t303.length co33, .slice Ao36 t306.length co36], .agg #[.slice Ao115 t319.length co115, .slice Ao116 t322.length co116]] (by rfl) rfl rfl (by (try simp only [List.map_toArray, List.map_cons, List.map_nil]); first | done | rfl | (simp only [List.length_drop, List.length_take]; rfl)) ?_
                with_reducible refine (laws_eqCalendar.calls kj17 _ _ t303 _ _ t306 _ _ t319 _ _ t322 false _ ?side1 ?side2 ?side3 ?side4 ?side5 ?side6 ?side7 ?side8 A52.out).mono ?_
                (case side1 => repeat (first | exact (Kd.R_reads' HO_310000.out).2.2 | (with_reducible refine Kd.C_alloc ?_ _) | (with_reducible refine Kd.C_drewN ?_ _) | (with_reducible refine Kd.C_drew ?_)))
                (case side2 => exact (Kd.R_reads' HO_310000.out).2.1)
                (case side3 => repeat (first | exact (Kd.R_reads' HO_310001.out).2.2 | (with_reducible refine Kd.C_alloc ?_ _) | (with_reducible refine Kd.C_drewN ?_ _) | (with_reducible refine Kd.C_drew ?_)))
                (case side4 => exact (Kd.R_reads' HO_310001.out).2.1)
                (case side5 => repeat (first | exact (Kd.R_reads' HO321.out).2.2 | (with_reducible refine Kd.C_alloc ?_ _) | (with_reducible refine Kd.C_drewN ?_ _) | (with_reducible refine Kd.C_drew ?_)))
                (case side6 => exact (Kd.R_reads' HO321.out).2.1)
                (case side7 => repeat (first | exact (Kd.R_reads' HO324.out).2.2 | (with_reducible refine Kd.C_alloc ?_ _) | (with_reducible refine Kd.C_drewN ?_ _) | (with_reducible refine Kd.C_drew ?_)))
                (case side8 => exact (Kd.R_reads' HO324.out).2.1)
                rintro e w117 ⟨rfl, hb⟩
                refine ⟨_, rfl, ?_⟩
                have n0_ := Aside0.mk (Kd.R_below (by (with_reducible repeat (first | apply Kd.R_alloc | apply Kd.R_drewN | apply Kd.R_drew)); exact HO_10.out) hb)
                have n1_ := Aside0.mk (Kd.R_below (by (with_reducible repeat (first | apply Kd.R_alloc | apply Kd.R_drewN | apply Kd.R_drew)); exact HO_12.out) hb)
                have n2_ := Aside0.mk (Kd.R_below (by (with_reducible repeat (first | apply Kd.R_alloc | apply Kd.R_drewN | apply Kd.R_drew)); exact HO_14.out) hb)
                have n3_ := Aside0.mk (Kd.R_below (by (with_reducible repeat (first | apply Kd.R_alloc | apply Kd.R_drewN | apply Kd.R_drew)); exact HO_310000.out) hb)
                have n4_ := Aside0.mk (Kd.R_below (by (with_reducible repeat (first | apply Kd.R_alloc | apply Kd.R_drewN | apply Kd.R_drew)); exact HO_310001.out) hb)
                have n5_ := Aside0.mk (Kd.R_below (by (with_reducible repeat (first | apply Kd.R_alloc | apply Kd.R_drewN | apply Kd.R_drew)); exact HO317.out) hb)
                have n6_ := Aside0.mk (Kd.R_below (by (with_reducible repeat (first | apply Kd.R_alloc | apply Kd.R_drewN | apply Kd.R_drew)); exact HO321.out) hb)
                have n7_ := Aside0.mk (Kd.R_below (by (with_reducible repeat (first | apply Kd.R_alloc | apply Kd.R_drewN | apply Kd.R_drew)); exact HO324.out) hb)
                have n8_ := Aside0.mk (blk_below (g := gb285) (o := .cells #[.slice A1_0 l1_0.length c1_0, .slice A1_1 l1_1.length c1_1] 45 (0, 0)) (by (with_reducible repeat (first | refine blk_drewN ?_ _ | refine blk_drew ?_ | refine blk_alloc ?_ _)); exact BK285.out) hb)
                have n9_ := Aside0.mk (blk_below (g := gb309) (o := .cells #[.slice Ao33 t303.length co33, .slice Ao36 t306.length co36] 48 (0, 0)) (by (with_reducible repeat (first | refine blk_drewN ?_ _ | refine blk_drew ?_ | refine blk_alloc ?_ _)); exact BK309.out) hb)
                have n10_ := Aside0.mk (below_step (by repeat (first | (with_reducible first | exact HB.out | apply below_alloc | apply pw_below_drewN | apply below_drew1 | refine below_set ?_ GE285.out | refine below_set ?_ GE309.out) | exact HB.out)) hb)
                clear HO_10
                clear HO_12
                clear HO_14
                clear HO_310000
                clear HO_310001
                clear HO317
                clear HO321
                clear HO324
                clear BK285
                clear BK309
                clear HB
                have HO_10 := n0_
                have HO_12 := n1_
                have HO_14 := n2_
                have HO_310000 := n3_
                have HO_310001 := n4_
                have HO317 := n5_
                have HO321 := n6_
                have HO324 := n7_
                have BK285 := n8_
                have BK309 := n9_
                have HB := n10_
                clear n0_ n1_ n2_ n3_ n4_ n5_ n6_ n7_ n8_ n9_ n10_
                (try clear hb)
                (try clear hb2)
                (try clear hk)
                (try clear hi)
                refine hK.out _ _ ⟨(blk_cell BK309.out 0).trans rfl, (blk_cell BK309.out 1).trans rfl, (blk_cell BK285.out 0).trans rfl, (blk_cell BK285.out 1).trans rfl⟩ (fun hHeld => ?_)
                clear hK K
                refine norm_ (a' := ?_) ?_ ?_
                rotate_left
                · show Act.put _ (some 68) _ = _
                  simp only [Act.put, List.setIfInBounds_toArray, List.set_cons_zero, List.set_cons_succ, i64_w, i32_w]
                  rfl
                refine pure_ (i := 4) (N := some 69) (v := ?_) (a' := ?_) #[true, true, true, true, true] rfl rfl (by kernel_rfl) (fun _ _ _ h => h) (Or.inl ⟨by rfl, ?_⟩) ?_ ?_
                rotate_left
                · intro w'
                  go_simp
                  with_reducible rfl
                rotate_left
                · simp only [Act.put, List.setIfInBounds_toArray, List.set_cons_zero, List.set_cons_succ, i64_w, i32_w]
                  rfl
                refine done_ (by kernel_rfl) ?_
                try go_wp2
                go_ret
                exact ⟨by first | rfl | (simp only [Int.mul_zero, show wrap64 0 = 0 from by unfold wrap64; omega]; rfl) | (simp [errW_none, errW_some] <;> rfl) | (simp [*, errW_none, errW_some] <;> rfl), by repeat (first | (with_reducible first | exact HB.out | apply below_alloc | apply pw_below_drewN | apply below_drew1 | refine below_set ?_ GE285.out | refine below_set ?_ GE309.out) | exact HB.out)⟩
            · replace c50 := Bool.eq_false_iff.mpr c50
              subst c50
              have H1 : (some false) = some r := by rw [if_neg (show ¬ (false = true) by decide)] at H; exact H
              clear H
              have H := H1
              clear H1
              obtain rfl := Option.some.inj H
              go_wp2_with (first | ((with_reducible refine gate_callee (f := 22) rfl ?_); refine goesL_ (some 62) rfl rfl Try.func22 (by kernel_rfl) rfl #[.slice A0 l0.length c0] rfl (by (try simp only [List.map_toArray, List.map_cons, List.map_nil]); first | done | rfl | (simp only [List.length_drop, List.length_take]; rfl)) ?_; (with_reducible refine (laws_toIntS.calls kj17 _ _ l0 t315 _ ?side1 ?side2 A48.out).mono ?_); (case side1 => repeat (first | exact (Kd.C_below HR0.out HB.out) | (with_reducible refine Kd.C_alloc ?_ _) | (with_reducible refine Kd.C_drewN ?_ _) | (with_reducible refine Kd.C_drew ?_))); (case side2 => exact HC0.out); rintro e w118 ⟨v316, rfl, ho0, hb⟩; refine ⟨_, rfl, ?_⟩; have n0_ := Aside0.mk (Kd.R_below (by (with_reducible repeat (first | apply Kd.R_alloc | apply Kd.R_drewN | apply Kd.R_drew)); exact HO_10.out) hb); have n1_ := Aside0.mk (Kd.R_elder' (by (with_reducible repeat (first | apply Kd.R_alloc | apply Kd.R_drewN | apply Kd.R_drew)); exact HO_12.out) (Kd.R_base ho0) hb); have n2_ := Aside0.mk (Kd.R_below (by (with_reducible repeat (first | apply Kd.R_alloc | apply Kd.R_drewN | apply Kd.R_drew)); exact HO_14.out) hb); have n3_ := Aside0.mk (Kd.R_elder' (by (with_reducible repeat (first | apply Kd.R_alloc | apply Kd.R_drewN | apply Kd.R_drew)); exact HO_310000.out) (Kd.R_base ho0) hb); have n4_ := Aside0.mk (Kd.R_elder' (by (with_reducible repeat (first | apply Kd.R_alloc | apply Kd.R_drewN | apply Kd.R_drew)); exact HO_310001.out) (Kd.R_base ho0) hb); have n5_ := Aside0.mk (Kd.R_lower (Kd.R_new' (Kd.R_new' (Kd.R_new' ho0 (Kd.R_lt (by (with_reducible repeat (first | apply Kd.R_alloc | apply Kd.R_drewN | apply Kd.R_drew)); exact HO_12.out))) (Kd.R_lt (by (with_reducible repeat (first | apply Kd.R_alloc | apply Kd.R_drewN | apply Kd.R_drew)); exact HO_310000.out))) (Kd.R_lt (by (with_reducible repeat (first | apply Kd.R_alloc | apply Kd.R_drewN | apply Kd.R_drew)); exact HO_310001.out))) (below_size (by repeat (first | (with_reducible first | exact HB.out | apply below_alloc | apply pw_below_drewN | apply below_drew1 | refine below_set ?_ GE285.out | refine below_set ?_ GE309.out) | exact HB.out)))); have n6_ := Aside0.mk (blk_below (g := gb285) (o := .cells #[.slice A1_0 l1_0.length c1_0, .slice A1_1 l1_1.length c1_1] 45 (0, 0)) (by (with_reducible repeat (first | refine blk_drewN ?_ _ | refine blk_drew ?_ | refine blk_alloc ?_ _)); exact BK285.out) hb); have n7_ := Aside0.mk (blk_below (g := gb309) (o := .cells #[.slice Ao33 t303.length co33, .slice Ao36 t306.length co36] 48 (0, 0)) (by (with_reducible repeat (first | refine blk_drewN ?_ _ | refine blk_drew ?_ | refine blk_alloc ?_ _)); exact BK309.out) hb); have n8_ := Aside0.mk (below_step (by repeat (first | (with_reducible first | exact HB.out | apply below_alloc | apply pw_below_drewN | apply below_drew1 | refine below_set ?_ GE285.out | refine below_set ?_ GE309.out) | exact HB.out)) hb); clear HO_10; clear HO_12; clear HO_14; clear HO_310000; clear HO_310001; clear BK285; clear BK309; clear HB; have HO_10 := n0_; have HO_12 := n1_; have HO_14 := n2_; have HO_310000 := n3_; have HO_310001 := n4_; have HO317 := n5_; have BK285 := n6_; have BK309 := n7_; have HB := n8_; clear n0_ n1_ n2_ n3_ n4_ n5_ n6_ n7_ n8_; (try clear hb); (try clear hb2); (try clear hk); (try clear hi); (try clear ho0); obtain ⟨Ao119, co119, eo119⟩ := Kd.R_slice HO317.out; subst eo119) | ((with_reducible refine gate_callee (f := 24) rfl ?_); refine goesL_ (some 63) rfl rfl Try.func24 (by kernel_rfl) rfl #[.slice Ao37 t300.length co37, .slice Ao119 t315.length co119] rfl (by (try simp only [List.map_toArray, List.map_cons, List.map_nil]); first | done | rfl | (simp only [List.length_drop, List.length_take]; rfl)) ?_; (with_reducible refine (laws_eqIntS.calls kj17 _ _ t300 _ _ t315 false _ ?side1 ?side2 ?side3 ?side4 A49.out).mono ?_); (case side1 => repeat (first | exact (Kd.R_reads' HO_12.out).2.2 | (with_reducible refine Kd.C_alloc ?_ _) | (with_reducible refine Kd.C_drewN ?_ _) | (with_reducible refine Kd.C_drew ?_))); (case side2 => exact (Kd.R_reads' HO_12.out).2.1); (case side3 => repeat (first | exact (Kd.R_reads' HO317.out).2.2 | (with_reducible refine Kd.C_alloc ?_ _) | (with_reducible refine Kd.C_drewN ?_ _) | (with_reducible refine Kd.C_drew ?_))); (case side4 => exact (Kd.R_reads' HO317.out).2.1); rintro e w' ⟨rfl, ⟨nd, rfl⟩⟩; refine ⟨_, rfl, ?_⟩))
              go_ret
              exact ⟨by first | rfl | (simp only [Int.mul_zero, show wrap64 0 = 0 from by unfold wrap64; omega]; rfl) | (simp [errW_none, errW_some] <;> rfl) | (simp [*, errW_none, errW_some] <;> rfl), by repeat (first | (with_reducible first | exact HB.out | apply below_alloc | apply pw_below_drewN | apply below_drew1 | refine below_set ?_ GE285.out | refine below_set ?_ GE309.out) | exact HB.out)⟩

end Go.Proofs.Ytlmdghcpcohamaa.PFnExactMakeSchedule
