/- The row of FnExactMarginCall: for every input that reads as data the call returns true, and each argument reads behind the call as it read before. It rests on the contract of the law's function. No condition. -/
import Derived.Test.YtiaakolalhdelaaRows
import Derived.Test.YtiaakolalhdelaaOFnExactMarginCall
import Derived.Test.YtiaakolalhdelaaKReads
import Derived.WalkKit
import Derived.ProofKit
import Derived.OpenShut
import Derived.ShutString
import Derived.ChangeOld
import Derived.Below
import Derived.SizedLaws
import Derived.Carry
namespace Go.Proofs.Ytiaakolalhdelaa.fnExactMarginCall
open Go.ChangeShapes Go.WideShapes Go.ChangeAt Go.RowKit
open Go.ChangeMaps (open_string shut_string)
open Go.Proofs.YtiaakolalhdelaaW.PrintWords Go.Proofs.Ytiaakolalhdelaa.PL17MH
set_option linter.unusedVariables false
theorem own : ownKnob Try.prog.godebug = none := by kernel_rfl
theorem laidOut : laidOutB Try.prog = true := by kernel_rfl
set_option maxRecDepth 100000 in
theorem lifted (os : Os) (started : os.Started) (H : Type) (enc : TypeId × Value → H) :
    ReturnsInHanded {} Try.checked os 5 .any (Rows.fnExactMarginCallSpec.pre6 enc Try.prog Try.f5 Rows.fnExactMarginCallRow.domain false) (Rows.fnExactMarginCallSpec.post enc Try.prog Try.f5 false true false false) := by
  refine returnsInHanded_of_change_sized (C := Try.checked) own started (by kernel_rfl) Try.func5
    (ChangeSpec.witness6 (enc := enc) (C := Try.checked) false ⟨#[], #[.int .i64 0, .int .i64 0, .agg #[.int .i64 0, .int .i64 0, .int .i64 0, .int .i64 0]], []⟩ 8 (by kernel_rfl) (by kernel_rfl) (by kernel_rfl) (by kernel_rfl)) ?_
  intro W base args ds gs before hval0 hW hcnd hsz0 _
  have hval : ∀ (j : Nat) t v, Try.f5.params[j]? = some t → args[j]? = some v → Value.okWide Try.prog W .any base t v := hval0
  have hW' := hW
  obtain ⟨p, q, hA0, hV, rfl, hfz, hnd⟩ := hW
  have hA : DataW.TrodAll enc Try.prog W 0 (fun _ => true) true Try.f5.params.toList args.toList ds p := hA0
  rw [Try.params5] at hA hval
  obtain ⟨v0, vs0, d0, ds0, p0, q0, hargs, rfl, rfl, h0, r0⟩ := trodAll_cons hA
  obtain ⟨v1, vs1, d1, ds1, p1, q1, rfl, rfl, rfl, h1, r1⟩ := trodAll_cons r0
  obtain ⟨v2, vs2, d2, ds2, p2, q2, rfl, rfl, rfl, h2, r2⟩ := trodAll_cons r1
  obtain ⟨rfl, rfl, rfl⟩ := trodAll_nil r2
  obtain rfl : args = #[v0, v1, v2] := by cases args; simp_all
  obtain ⟨rfl, rfl⟩ := trodVars_none hV
  obtain ⟨a0, rfl, rfl, rfl, w0⟩ := open_int Try.underlying3 (hval 0 3 v0 rfl rfl) h0
  obtain ⟨a1, rfl, rfl, rfl, w1⟩ := open_int Try.underlying3 (hval 1 3 v1 rfl rfl) h1
  have k2 := h2
  have lt2 : ∀ x ∈ p2, x.block < W.heap.size := by obtain ⟨m, hm⟩ := k2; exact DataW.trod_lt m _ _ _ hm
  obtain ⟨cs2, rfl, _⟩ := okWide_struct Try.underlying23 (hval 2 23 v2 rfl rfl)
  obtain ⟨x2, hx2, ok2⟩ := KReads.arg_struct (KReads.tells_struct Try.underlying23 (by kernel_rfl) (KReads.tellsF_cons (KReads.tells_i64 Try.underlying3) rfl (by kernel_rfl) (KReads.tellsF_cons (KReads.tells_i64 Try.underlying3) rfl (by kernel_rfl) (KReads.tellsF_cons (KReads.tells_i64 Try.underlying3) rfl (by kernel_rfl) (KReads.tellsF_one (KReads.tells_i64 Try.underlying3) rfl (by kernel_rfl)))))) h2
  obtain ⟨_, _, e2, rfl, ⟨_, _, rfl, rfl, ⟨_, _, rfl, rfl, rfl⟩⟩⟩ := hx2
  obtain rfl : cs2 = #[.int .i64 x2.1, .int .i64 x2.2.1, .int .i64 x2.2.2.1, .int .i64 x2.2.2.2] := by rw [← Array.toList_inj]; simpa using e2
  clear hA0 hval0 hsz0
  refine (Go.Proofs.Ytiaakolalhdelaa.O.law_c (a0 := a0) (a1 := a1) (a2_0 := x2.1) (a2_1 := x2.2.1) (a2_2 := x2.2.2.1) (a2_3 := x2.2.2.2) (w := W) (hi0 := bounds_i64 w0) (hi1 := bounds_i64 w1) (hi2 := ok2)).mono fun e W' ⟨he, bel⟩ => ?_
  subst he
  exact ⟨_, rfl, _, _, _, [], _, [], hW', trodAll_mk1 (shut_bool Try.underlying4 _), (trodAll_cons_mk (shut_int Try.underlying3 w0) (trodAll_cons_mk (shut_int Try.underlying3 w1) (trodAll_cons_mk (Below.trod laidOut (by kernel_rfl) (of_decide_eq_true (by kernel_rfl)) k2 bel lt2) trodAll_mk0))), rfl, bel.frame _, fun h => by cases h⟩
theorem over : Rows.fnExactMarginCallRow.holds Try.pinned (OpenSpec.ofChange Rows.fnExactMarginCallSpec) :=
  OpenClaim.holds_of_wide 5 Try.f5 rfl rfl rfl rfl rfl rfl rfl ⟨rfl, rfl, rfl, rfl, rfl⟩ rfl rfl rfl rfl rfl (by kernel_rfl) Try.func5 (by kernel_rfl)
    (of_decide_eq_true (by kernel_rfl)) (by unfold Func.isWrapper; first | (rw [if_pos (by decide +kernel)]; kernel_rfl) | (rw [if_neg (by decide +kernel)]; exact ⟨rfl, rfl⟩))
    (fun os started H enc _ => lifted os started H enc)
theorem proved : Rows.FnExactMarginCallSaid := over
#print axioms proved
end Go.Proofs.Ytiaakolalhdelaa.fnExactMarginCall
namespace Go.Proofs.Ytiaakolalhdelaa
/-- The row, under a short name, for the claim. -/
theorem fnExactMarginCall_holds : Rows.FnExactMarginCallSaid := fnExactMarginCall.proved
end Go.Proofs.Ytiaakolalhdelaa
