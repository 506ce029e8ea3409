/- The row of FnExactSettleTogether: for every input that reads as data the call returns true, and each argument reads behind the call as it read before. It rests on the contract of the law's function. No condition. -/
import Derived.Test.YtaobdjdmmhglaaaRows
import Derived.Test.YtaobdjdmmhglaaaOFnExactSettleTogether
import Derived.Test.YtaobdjdmmhglaaaKReads
import Derived.WalkKit
import Derived.ProofKit
import Derived.OpenShut
import Derived.ShutString
import Derived.ChangeOld
import Derived.Below
import Derived.SizedLaws
import Derived.Carry
namespace Go.Proofs.Ytaobdjdmmhglaaa.fnExactSettleTogether
open Go.ChangeShapes Go.WideShapes Go.ChangeAt Go.RowKit
open Go.ChangeMaps (open_string shut_string)
open Go.Proofs.YtaobdjdmmhglaaaW.PrintWords Go.Proofs.Ytaobdjdmmhglaaa.PFnExactSettleInOrder
set_option linter.unusedVariables false
theorem own : ownKnob Try.prog.godebug = none := by kernel_rfl
theorem laidOut : laidOutB Try.prog = true := by kernel_rfl
theorem tells56 {H : Type} {enc : TypeId × Value → H} {W : World} : KReads.Tells enc Try.prog W 56 k56 (fun x => KReads.InI x.f0 ∧ KReads.InI x.f1 ∧ KReads.InI x.f2) :=
  KReads.tells_mono (KReads.tells_iso (KReads.tells_struct Try.underlying56 (by kernel_rfl) (KReads.tellsF_cons (KReads.tells_i64 Try.underlying3) rfl (by kernel_rfl) (KReads.tellsF_cons (KReads.tells_i64 Try.underlying3) rfl (by kernel_rfl) (KReads.tellsF_one (KReads.tells_i64 Try.underlying3) rfl (by kernel_rfl))))) (fun x : S56 => (x.f0, x.f1, x.f2)) (fun y => ⟨y.1, y.2.1, y.2.2⟩) (fun _ => rfl)) (fun x h => h)
set_option maxRecDepth 100000 in
theorem lifted (os : Os) (started : os.Started) (H : Type) (enc : TypeId × Value → H) :
    ReturnsInHanded {} Try.checked os 9 .any (Rows.fnExactSettleTogetherSpec.pre6 enc Try.prog Try.f9 Rows.fnExactSettleTogetherRow.domain false) (Rows.fnExactSettleTogetherSpec.post enc Try.prog Try.f9 false true false false) := by
  refine returnsInHanded_of_change_sized (C := Try.checked) own started (by kernel_rfl) Try.func9
    (ChangeSpec.witness6 (enc := enc) (C := Try.checked) false ⟨#[], #[.slice none 0 0, .int .i64 0, .slice none 0 0], []⟩ 8 (by kernel_rfl) (by kernel_rfl) (by kernel_rfl) (by kernel_rfl)) ?_
  intro W base args ds gs before hval0 hW hcnd hsz0 _
  have hval : ∀ (j : Nat) t v, Try.f9.params[j]? = some t → args[j]? = some v → Value.okWide Try.prog W .any base t v := hval0
  have hW' := hW
  obtain ⟨p, q, hA0, hV, rfl, hfz, hnd⟩ := hW
  have hA : DataW.TrodAll enc Try.prog W 0 (fun _ => true) true Try.f9.params.toList args.toList ds p := hA0
  rw [Try.params9] at hA hval
  obtain ⟨v0, vs0, d0, ds0, p0, q0, hargs, rfl, rfl, h0, r0⟩ := trodAll_cons hA
  obtain ⟨v1, vs1, d1, ds1, p1, q1, rfl, rfl, rfl, h1, r1⟩ := trodAll_cons r0
  obtain ⟨v2, vs2, d2, ds2, p2, q2, rfl, rfl, rfl, h2, r2⟩ := trodAll_cons r1
  obtain ⟨rfl, rfl, rfl⟩ := trodAll_nil r2
  obtain rfl : args = #[v0, v1, v2] := by cases args; simp_all
  obtain ⟨rfl, rfl⟩ := trodVars_none hV
  have k0 := h0
  have lt0 : ∀ x ∈ p0, x.block < W.heap.size := by obtain ⟨m, hm⟩ := k0; exact DataW.trod_lt m _ _ _ hm
  obtain ⟨A0, len0, cap0, rfl⟩ := okWide_slice Try.underlying22 (hval 0 22 v0 rfl rfl)
  obtain ⟨l0, rfl, hc0, hr0, ok0⟩ := KReads.arg_slice (KReads.tells_slice Try.underlying22 (tells56) (by kernel_rfl)) h0
  obtain ⟨a1, rfl, rfl, rfl, w1⟩ := open_int Try.underlying3 (hval 1 3 v1 rfl rfl) h1
  have k2 := h2
  have lt2 : ∀ x ∈ p2, x.block < W.heap.size := by obtain ⟨m, hm⟩ := k2; exact DataW.trod_lt m _ _ _ hm
  obtain ⟨A2, len2, cap2, rfl⟩ := okWide_slice Try.underlying31 (hval 2 31 v2 rfl rfl)
  obtain ⟨l2, rfl, hc2, hr2, ok2⟩ := KReads.arg_slice (KReads.tells_slice Try.underlying31 (KReads.tells_i64 Try.underlying3) (by kernel_rfl)) h2
  clear hA0 hval0 hsz0
  refine (Go.Proofs.Ytaobdjdmmhglaaa.O.law_c (A0 := A0) (c0 := cap0) (l0 := l0) (a1 := a1) (A2 := A2) (c2 := cap2) (l2 := l2) (w := W) (hr0 := hr0) (hc0 := hc0) (hr2 := hr2) (hc2 := hc2) (hi1 := bounds_i64 w1) (he0 := ok0.2) (he2 := ok2.2)).mono fun e W' ⟨he, bel⟩ => ?_
  subst he
  exact ⟨_, rfl, _, _, _, [], _, [], hW', trodAll_mk1 (shut_bool Try.underlying4 _), (trodAll_cons_mk (Below.trod laidOut (by kernel_rfl) (of_decide_eq_true (by kernel_rfl)) k0 bel lt0) (trodAll_cons_mk (shut_int Try.underlying3 w1) (trodAll_cons_mk (Below.trod laidOut (by kernel_rfl) (of_decide_eq_true (by kernel_rfl)) k2 bel lt2) trodAll_mk0))), rfl, bel.frame _, fun h => by cases h⟩
theorem over : Rows.fnExactSettleTogetherRow.holds Try.pinned (OpenSpec.ofChange Rows.fnExactSettleTogetherSpec) :=
  OpenClaim.holds_of_wide 9 Try.f9 rfl rfl rfl rfl rfl rfl rfl ⟨rfl, rfl, rfl, rfl, rfl⟩ rfl rfl rfl rfl rfl (by kernel_rfl) Try.func9 (by kernel_rfl)
    (of_decide_eq_true (by kernel_rfl)) (by unfold Func.isWrapper; first | (rw [if_pos (by decide +kernel)]; kernel_rfl) | (rw [if_neg (by decide +kernel)]; exact ⟨rfl, rfl⟩))
    (fun os started H enc _ => lifted os started H enc)
theorem proved : Rows.FnExactSettleTogetherSaid := over
#print axioms proved
end Go.Proofs.Ytaobdjdmmhglaaa.fnExactSettleTogether
namespace Go.Proofs.Ytaobdjdmmhglaaa
/-- The row, under a short name, for the claim. -/
theorem fnExactSettleTogether_holds : Rows.FnExactSettleTogetherSaid := fnExactSettleTogether.proved
end Go.Proofs.Ytaobdjdmmhglaaa
