/- What comes in of the types that FnExactExprOk takes, told by the print's makes; the plain statement. -/
import Derived.Test.YtigibdkgimgknaaMFnExactExprOkx0
import Derived.Test.YtigibdkgimgknaaMFnExactExprOkx6
import Derived.Test.YtigibdkgimgknaaMOpens
namespace Go.Proofs.Ytigibdkgimgknaa.MFnExactExprOk
open Go.RowKit Go.Proofs.YtigibdkgimgknaaW.PrintWords Go.Proofs.YtigibdkgimgknaaW.PrintLast
/-- What is known of what comes in. -/
def ok139 (x : S139) : Prop := (Lit.int .i64 x.f0).wf = true ∧ (Lit.int .i64 x.f1).wf = true ∧ x.f2.size ≤ maxLen ∧ ((∀ y ∈ x.f3, (Lit.int .i64 y).wf = true) ∧ x.f3.length ≤ maxLen)
set_option maxRecDepth 100000 in
theorem opens139 : Opens Try.prog 139 k139 ok139 := by
  have h := opens_iso (f := fun x : S139 => (x.f0, x.f1, x.f2, x.f3)) (fun z => ⟨⟨z.1, z.2.1, z.2.2.1, z.2.2.2⟩, rfl⟩) (opens_struct Try.underlying139 (by kernel_rfl) (opensAt_more rfl rfl (opens_int (T := 3) Try.underlying3 (by kernel_rfl)) (opensAt_more rfl rfl (opens_int (T := 3) Try.underlying3 (by kernel_rfl)) (opensAt_more rfl rfl (opens_string (T := 9) Try.underlying9 (by kernel_rfl)) (opensAt_one rfl rfl (opens_slice (T := 41) Try.underlying41 (by kernel_rfl) (opens_int (T := 3) Try.underlying3 (by kernel_rfl))))))))
  exact h
/-- The plain statement of the law. -/
def laws_FnExactExprOk.Pure : Prop := ∀ (l0 : List S139), (∀ y ∈ l0, ok139 y) → l0.length ≤ maxLen → ∃ k, laws_FnExactExprOk.f k l0 = some true
end Go.Proofs.Ytigibdkgimgknaa.MFnExactExprOk
