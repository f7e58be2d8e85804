/- The law FnExactEnvOnly, whole: at every input the call answers true, and each argument reads as it read. No condition beyond the form's own. -/
import Derived.Test.YtigibdkgimgknaaRows
import Derived.Test.YtigibdkgimgknaaMFnExactEnvOnlyx4
import Derived.Test.YtigibdkgimgknaaMFnExactEnvOnlyok
import Derived.Test.YtigibdkgimgknaaPureFnExactEnvOnly
import Derived.WalkKit
import Derived.ProofKit
import Derived.OpenShut
import Derived.ShutString
import Derived.ChangeOld
import Derived.Below
import Derived.SizedLaws
namespace Go.Proofs.Ytigibdkgimgknaa.fnExactEnvOnly
open Go.ChangeShapes Go.WideShapes Go.ChangeAt Go.RowKit Go.Proofs.YtigibdkgimgknaaW.PrintWords Go.Proofs.Ytigibdkgimgknaa.MFnExactEnvOnly
open Go.ChangeMaps (open_string shut_string)
set_option linter.unusedVariables false
theorem own : ownKnob Try.prog.godebug = none := by kernel_rfl
theorem laidOut : laidOutB Try.prog = true := by kernel_rfl
set_option maxRecDepth 100000 in
theorem lifted (os : Os) (started : os.Started) (H : Type) (enc : TypeId × Value → H) :
    ReturnsInHanded {} Try.checked os 10 .any (Rows.fnExactEnvOnlySpec.pre6 enc Try.prog Try.f10 Rows.fnExactEnvOnlyRow.domain false) (Rows.fnExactEnvOnlySpec.post enc Try.prog Try.f10 false true false false) := by
  refine returnsInHanded_of_change_sized (C := Try.checked) own started (by kernel_rfl) Try.func10
    (ChangeSpec.witness6 (enc := enc) (C := Try.checked) false ⟨#[], #[.slice none 0 0, .slice none 0 0], []⟩ 8 (by kernel_rfl) (by kernel_rfl) (by kernel_rfl) (by kernel_rfl)) ?_
  intro W base args ds gs before hval0 hW hcnd hsz0 _
  have hsz : (DataW.weightsEach Try.prog (Try.f10.params.toList ++ Rows.fnExactEnvOnlySpec.plain.varTypes Try.prog) (ds ++ gs)).all (· ≤ reachBytes) = true := hsz0
  have hval : ∀ (j : Nat) t v, Try.f10.params[j]? = some t → args[j]? = some v → Value.okWide Try.prog W .any base t v := hval0
  have hW' := hW
  obtain ⟨p, q, hA0, hV, rfl, hfz, hnd⟩ := hW
  have hA : DataW.TrodAll enc Try.prog W 0 (fun _ => true) true Try.f10.params.toList args.toList ds p := hA0
  rw [Try.params10] at hA hval hsz
  obtain ⟨v0, vs0, d0, ds0, p0, q0, hargs, rfl, rfl, h0, r0⟩ := trodAll_cons hA
  obtain ⟨v1, vs1, d1, ds1, p1, q1, rfl, rfl, rfl, h1, r1⟩ := trodAll_cons r0
  obtain ⟨rfl, rfl, rfl⟩ := trodAll_nil r1
  obtain rfl : args = #[v0, v1] := by cases args; simp_all
  obtain ⟨rfl, rfl⟩ := trodVars_none hV
  have k0 := h0
  have lt0 : ∀ x ∈ p0, x.block < W.heap.size := by obtain ⟨m, hm⟩ := k0; exact DataW.trod_lt m _ _ _ hm
  have f0 : ∃ a l c, v0 = .slice a l c := by obtain ⟨a, l, c, h⟩ := okWide_slice Try.underlying28 (hval 0 28 v0 rfl rfl); exact ⟨a, l, c, h⟩
  obtain ⟨A0, c0, l0, rfl, hc0, hr0, w0, y0⟩ := opens_param Try.underlying28 (by kernel_rfl) opens92 f0 h0
  have k1 := h1
  have lt1 : ∀ x ∈ p1, x.block < W.heap.size := by obtain ⟨m, hm⟩ := k1; exact DataW.trod_lt m _ _ _ hm
  have f1 : ∃ a l c, v1 = .slice a l c := by obtain ⟨a, l, c, h⟩ := okWide_slice Try.underlying47 (hval 1 47 v1 rfl rfl); exact ⟨a, l, c, h⟩
  obtain ⟨A1, c1, l1, rfl, hc1, hr1, w1, y1⟩ := opens_param Try.underlying47 (by kernel_rfl) (opens_string (T := 9) Try.underlying9 (by kernel_rfl)) f1 h1
  clear hA0 hval0 hsz0 hsz
  obtain ⟨k, h⟩ := Pure.FnExactEnvOnly l0 l1 w0 y0 w1 y1
  refine (MFnExactEnvOnly.laws_FnExactEnvOnly.calls k _ _ l0 _ _ l1 true W hr0 hc0 hr1 hc1 h).mono fun e W' ⟨he, bel0⟩ => ?_
  have bel : Below W.heap.size W W' := bel0
  subst he
  exact ⟨_, rfl, _, _, _, [], _, [], hW', trodAll_mk1 (shut_bool Try.underlying4 _), (trodAll_cons_mk (Below.trod laidOut (by kernel_rfl) (of_decide_eq_true (by kernel_rfl)) k0 bel lt0) (trodAll_cons_mk (Below.trod laidOut (by kernel_rfl) (of_decide_eq_true (by kernel_rfl)) k1 bel lt1) trodAll_mk0)), rfl, bel.frame _, fun h => by cases h⟩
theorem over : Rows.fnExactEnvOnlyRow.holds Try.pinned (OpenSpec.ofChange Rows.fnExactEnvOnlySpec) :=
  OpenClaim.holds_of_wide 10 Try.f10 rfl rfl rfl rfl rfl rfl rfl ⟨rfl, rfl, rfl, rfl, rfl⟩ rfl rfl rfl rfl rfl (by kernel_rfl) Try.func10 (by kernel_rfl)
    (of_decide_eq_true (by kernel_rfl)) (by unfold Func.isWrapper; first | (rw [if_pos (by decide +kernel)]; kernel_rfl) | (rw [if_neg (by decide +kernel)]; exact ⟨rfl, rfl⟩))
    (fun os started H enc _ => lifted os started H enc)
theorem proved : Rows.FnExactEnvOnlySaid := over
#print axioms proved
end Go.Proofs.Ytigibdkgimgknaa.fnExactEnvOnly
namespace Go.Proofs.Ytigibdkgimgknaa
/-- The row, under a short name, for the claim. -/
theorem fnExactEnvOnly_holds : Rows.FnExactEnvOnlySaid := fnExactEnvOnly.proved
end Go.Proofs.Ytigibdkgimgknaa
