/- The row of FnExactSelectAssets: for every input that reads as data the call returns true, and each argument reads behind the call as it read before. It rests on the contract of the law's function. No condition. -/
import Derived.Test.YtiaakolalhdelaaRows
import Derived.Test.YtiaakolalhdelaaOFnExactSelectAssets
import Derived.Test.YtiaakolalhdelaaKReads
import Derived.WalkKit
import Derived.ProofKit
import Derived.OpenShut
import Derived.ShutString
import Derived.ChangeOld
import Derived.Below
import Derived.SizedLaws
import Derived.Carry
namespace Go.Proofs.Ytiaakolalhdelaa.fnExactSelectAssets
open Go.ChangeShapes Go.WideShapes Go.ChangeAt Go.RowKit
open Go.ChangeMaps (open_string shut_string)
open Go.Proofs.YtiaakolalhdelaaW.PrintWords Go.Proofs.Ytiaakolalhdelaa.PL17S
set_option linter.unusedVariables false
theorem own : ownKnob Try.prog.godebug = none := by kernel_rfl
theorem laidOut : laidOutB Try.prog = true := by kernel_rfl
theorem tells68 {H : Type} {enc : TypeId × Value → H} {W : World} : KReads.Tells enc Try.prog W 68 k68 (fun x => KReads.InI x.f0 ∧ KReads.InI x.f1 ∧ KReads.InI x.f2) :=
  KReads.tells_mono (KReads.tells_iso (KReads.tells_struct Try.underlying68 (by kernel_rfl) (KReads.tellsF_cons (KReads.tells_i64 Try.underlying3) rfl (by kernel_rfl) (KReads.tellsF_cons (KReads.tells_i64 Try.underlying3) rfl (by kernel_rfl) (KReads.tellsF_one (KReads.tells_i64 Try.underlying3) rfl (by kernel_rfl))))) (fun x : S68 => (x.f0, x.f1, x.f2)) (fun y => ⟨y.1, y.2.1, y.2.2⟩) (fun _ => rfl)) (fun x h => h)
set_option maxRecDepth 100000 in
theorem lifted (os : Os) (started : os.Started) (H : Type) (enc : TypeId × Value → H) :
    ReturnsInHanded {} Try.checked os 12 .any (Rows.fnExactSelectAssetsSpec.pre6 enc Try.prog Try.f12 Rows.fnExactSelectAssetsRow.domain false) (Rows.fnExactSelectAssetsSpec.post enc Try.prog Try.f12 false true false false) := by
  refine returnsInHanded_of_change_sized (C := Try.checked) own started (by kernel_rfl) Try.func12
    (ChangeSpec.witness6 (enc := enc) (C := Try.checked) false ⟨#[], #[.slice none 0 0, .int .i64 0], []⟩ 8 (by kernel_rfl) (by kernel_rfl) (by kernel_rfl) (by kernel_rfl)) ?_
  intro W base args ds gs before hval0 hW hcnd hsz0 _
  have hval : ∀ (j : Nat) t v, Try.f12.params[j]? = some t → args[j]? = some v → Value.okWide Try.prog W .any base t v := hval0
  have hW' := hW
  obtain ⟨p, q, hA0, hV, rfl, hfz, hnd⟩ := hW
  have hA : DataW.TrodAll enc Try.prog W 0 (fun _ => true) true Try.f12.params.toList args.toList ds p := hA0
  rw [Try.params12] at hA hval
  obtain ⟨v0, vs0, d0, ds0, p0, q0, hargs, rfl, rfl, h0, r0⟩ := trodAll_cons hA
  obtain ⟨v1, vs1, d1, ds1, p1, q1, rfl, rfl, rfl, h1, r1⟩ := trodAll_cons r0
  obtain ⟨rfl, rfl, rfl⟩ := trodAll_nil r1
  obtain rfl : args = #[v0, v1] := by cases args; simp_all
  obtain ⟨rfl, rfl⟩ := trodVars_none hV
  have k0 := h0
  have lt0 : ∀ x ∈ p0, x.block < W.heap.size := by obtain ⟨m, hm⟩ := k0; exact DataW.trod_lt m _ _ _ hm
  obtain ⟨A0, len0, cap0, rfl⟩ := okWide_slice Try.underlying29 (hval 0 29 v0 rfl rfl)
  obtain ⟨l0, rfl, hc0, hr0, ok0⟩ := KReads.arg_slice (KReads.tells_slice Try.underlying29 (tells68) (by kernel_rfl)) h0
  obtain ⟨a1, rfl, rfl, rfl, w1⟩ := open_int Try.underlying3 (hval 1 3 v1 rfl rfl) h1
  clear hA0 hval0 hsz0
  refine (Go.Proofs.Ytiaakolalhdelaa.O.law_c (A0 := A0) (c0 := cap0) (l0 := l0) (a1 := a1) (w := W) (hr0 := hr0) (hc0 := hc0) (hi1 := bounds_i64 w1) (he0 := ok0.2)).mono fun e W' ⟨he, bel⟩ => ?_
  subst he
  exact ⟨_, rfl, _, _, _, [], _, [], hW', trodAll_mk1 (shut_bool Try.underlying4 _), (trodAll_cons_mk (Below.trod laidOut (by kernel_rfl) (of_decide_eq_true (by kernel_rfl)) k0 bel lt0) (trodAll_cons_mk (shut_int Try.underlying3 w1) trodAll_mk0)), rfl, bel.frame _, fun h => by cases h⟩
theorem over : Rows.fnExactSelectAssetsRow.holds Try.pinned (OpenSpec.ofChange Rows.fnExactSelectAssetsSpec) :=
  OpenClaim.holds_of_wide 12 Try.f12 rfl rfl rfl rfl rfl rfl rfl ⟨rfl, rfl, rfl, rfl, rfl⟩ rfl rfl rfl rfl rfl (by kernel_rfl) Try.func12 (by kernel_rfl)
    (of_decide_eq_true (by kernel_rfl)) (by unfold Func.isWrapper; first | (rw [if_pos (by decide +kernel)]; kernel_rfl) | (rw [if_neg (by decide +kernel)]; exact ⟨rfl, rfl⟩))
    (fun os started H enc _ => lifted os started H enc)
theorem proved : Rows.FnExactSelectAssetsSaid := over
#print axioms proved
end Go.Proofs.Ytiaakolalhdelaa.fnExactSelectAssets
namespace Go.Proofs.Ytiaakolalhdelaa
/-- The row, under a short name, for the claim. -/
theorem fnExactSelectAssets_holds : Rows.FnExactSelectAssetsSaid := fnExactSelectAssets.proved
end Go.Proofs.Ytiaakolalhdelaa
