/- The row of FnExactMakeSchedule: for every input that reads as data the call returns true, and each argument reads behind the call as it read before. It rests on the contract of the function and on the pure law of PureFnExactMakeSchedule. No condition. -/
import Derived.Test.YtlmdghcpcohamaaRows
import Derived.Test.YtlmdghcpcohamaaVFnExactMakeSchedulex13
import Derived.Test.YtlmdghcpcohamaaVFnExactMakeSchedulePure
import Derived.Test.YtlmdghcpcohamaaVFnExactMakeScheduleKReads
import Derived.WalkKit
import Derived.ProofKit
import Derived.OpenShut
import Derived.ShutString
import Derived.ChangeOld
import Derived.Below
import Derived.SizedLaws
import Derived.Carry
namespace Go.Proofs.Ytlmdghcpcohamaa.fnExactMakeSchedule
open Go.ChangeShapes Go.WideShapes Go.ChangeAt Go.RowKit
open Go.ChangeMaps (open_string shut_string)
open Go.Proofs.YtlmdghcpcohamaaW.PrintWords Go.Proofs.Ytlmdghcpcohamaa.PFnExactMakeSchedule
set_option linter.unusedVariables false
theorem own : ownKnob Try.prog.godebug = none := by kernel_rfl
theorem laidOut : laidOutB Try.prog = true := by kernel_rfl
set_option maxRecDepth 100000 in
theorem lifted (os : Os) (started : os.Started) (H : Type) (enc : TypeId × Value → H) :
    ReturnsInHanded {} Try.checked os 9 .any (Rows.fnExactMakeScheduleSpec.pre6 enc Try.prog Try.f9 Rows.fnExactMakeScheduleRow.domain false) (Rows.fnExactMakeScheduleSpec.post enc Try.prog Try.f9 false true false false) := by
  refine returnsInHanded_of_change_sized (C := Try.checked) own started (by kernel_rfl) Try.func9
    (ChangeSpec.witness6 (enc := enc) (C := Try.checked) false ⟨#[], #[.slice none 0 0, .agg #[.slice none 0 0, .slice none 0 0], .int .i64 0, .int .i64 0], []⟩ 8 (by kernel_rfl) (by kernel_rfl) (by kernel_rfl) (by kernel_rfl)) ?_
  intro W base args ds gs before hval0 hW hcnd hsz0 _
  have hval : ∀ (j : Nat) t v, Try.f9.params[j]? = some t → args[j]? = some v → Value.okWide Try.prog W .any base t v := hval0
  have hW' := hW
  obtain ⟨p, q, hA0, hV, rfl, hfz, hnd⟩ := hW
  have hA : DataW.TrodAll enc Try.prog W 0 (fun _ => true) true Try.f9.params.toList args.toList ds p := hA0
  rw [Try.params9] at hA hval
  obtain ⟨v0, vs0, d0, ds0, p0, q0, hargs, rfl, rfl, h0, r0⟩ := trodAll_cons hA
  obtain ⟨v1, vs1, d1, ds1, p1, q1, rfl, rfl, rfl, h1, r1⟩ := trodAll_cons r0
  obtain ⟨v2, vs2, d2, ds2, p2, q2, rfl, rfl, rfl, h2, r2⟩ := trodAll_cons r1
  obtain ⟨v3, vs3, d3, ds3, p3, q3, rfl, rfl, rfl, h3, r3⟩ := trodAll_cons r2
  obtain ⟨rfl, rfl, rfl⟩ := trodAll_nil r3
  obtain rfl : args = #[v0, v1, v2, v3] := by cases args; simp_all
  obtain ⟨rfl, rfl⟩ := trodVars_none hV
  have k0 := h0
  have lt0 : ∀ x ∈ p0, x.block < W.heap.size := by obtain ⟨m, hm⟩ := k0; exact DataW.trod_lt m _ _ _ hm
  obtain ⟨A0, len0, cap0, rfl⟩ := okWide_slice Try.underlying32 (hval 0 32 v0 rfl rfl)
  obtain ⟨l0, rfl, hc0, hr0, ok0⟩ := KReads.arg_slice (KReads.tells_slice Try.underlying32 (KReads.tells_i64 Try.underlying3) (by kernel_rfl)) h0
  have k1 := h1
  have lt1 : ∀ x ∈ p1, x.block < W.heap.size := by obtain ⟨m, hm⟩ := k1; exact DataW.trod_lt m _ _ _ hm
  obtain ⟨cs1, rfl, _⟩ := okWide_struct Try.underlying45 (hval 1 45 v1 rfl rfl)
  obtain ⟨x1, hx1, ok1⟩ := KReads.arg_struct (KReads.tells_struct Try.underlying45 (by kernel_rfl) (KReads.tellsF_cons (KReads.tells_slice Try.underlying32 (KReads.tells_i64 Try.underlying3) (by kernel_rfl)) rfl (by kernel_rfl) (KReads.tellsF_one (KReads.tells_slice Try.underlying32 (KReads.tells_i64 Try.underlying3) (by kernel_rfl)) rfl (by kernel_rfl)))) h1
  obtain ⟨_, _, e1, ⟨A1_0, c1_0, rfl, hc1_0, hr1_0⟩, ⟨A1_1, c1_1, rfl, hc1_1, hr1_1⟩⟩ := hx1
  obtain rfl : cs1 = #[.slice A1_0 (x1.1).length c1_0, .slice A1_1 (x1.2).length c1_1] := by rw [← Array.toList_inj]; simpa using e1
  obtain ⟨a2, rfl, rfl, rfl, w2⟩ := open_int Try.underlying3 (hval 2 3 v2 rfl rfl) h2
  obtain ⟨a3, rfl, rfl, rfl, w3⟩ := open_int Try.underlying3 (hval 3 3 v3 rfl rfl) h3
  clear hA0 hval0 hsz0
  obtain ⟨k, hk⟩ := Pure.FnExactMakeSchedule l0 (x1.1) (x1.2) a2 a3 ok0 ok1 (bounds_i64 w2) (bounds_i64 w3)
  refine (laws_FnExactMakeSchedule.calls (k := k) (A0 := A0) (c0 := cap0) (l0 := l0) (A1_0 := A1_0) (c1_0 := c1_0) (l1_0 := x1.1) (A1_1 := A1_1) (c1_1 := c1_1) (l1_1 := x1.2) (a2 := a2) (a3 := a3) (r := true) (w := W) (hr0 := hr0) (hc0 := hc0) (hr1_0 := hr1_0) (hc1_0 := hc1_0) (hr1_1 := hr1_1) (hc1_1 := hc1_1) (h := hk)).mono fun e W' ⟨he, bel⟩ => ?_
  subst he
  exact ⟨_, rfl, _, _, _, [], _, [], hW', trodAll_mk1 (shut_bool Try.underlying4 _), (trodAll_cons_mk (Below.trod laidOut (by kernel_rfl) (of_decide_eq_true (by kernel_rfl)) k0 bel lt0) (trodAll_cons_mk (Below.trod laidOut (by kernel_rfl) (of_decide_eq_true (by kernel_rfl)) k1 bel lt1) (trodAll_cons_mk (shut_int Try.underlying3 w2) (trodAll_cons_mk (shut_int Try.underlying3 w3) trodAll_mk0)))), rfl, bel.frame _, fun h => by cases h⟩
theorem over : Rows.fnExactMakeScheduleRow.holds Try.pinned (OpenSpec.ofChange Rows.fnExactMakeScheduleSpec) :=
  OpenClaim.holds_of_wide 9 Try.f9 rfl rfl rfl rfl rfl rfl rfl ⟨rfl, rfl, rfl, rfl, rfl⟩ rfl rfl rfl rfl rfl (by kernel_rfl) Try.func9 (by kernel_rfl)
    (of_decide_eq_true (by kernel_rfl)) (by unfold Func.isWrapper; first | (rw [if_pos (by decide +kernel)]; kernel_rfl) | (rw [if_neg (by decide +kernel)]; exact ⟨rfl, rfl⟩))
    (fun os started H enc _ => lifted os started H enc)
theorem proved : Rows.FnExactMakeScheduleSaid := over
#print axioms proved
end Go.Proofs.Ytlmdghcpcohamaa.fnExactMakeSchedule
namespace Go.Proofs.Ytlmdghcpcohamaa
/-- The row, under a short name, for the claim. -/
theorem fnExactMakeSchedule_holds : Rows.FnExactMakeScheduleSaid := fnExactMakeSchedule.proved
end Go.Proofs.Ytlmdghcpcohamaa
