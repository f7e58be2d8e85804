/- What comes in of the types that FnExactHeightOf takes, told by the print's makes; the plain statement. -/
import Derived.Test.YtigibdkgimgknaaMFnExactHeightOfx0
import Derived.Test.YtigibdkgimgknaaMFnExactHeightOfx4
import Derived.Test.YtigibdkgimgknaaMOpens
namespace Go.Proofs.Ytigibdkgimgknaa.MFnExactHeightOf
open Go.RowKit Go.Proofs.YtigibdkgimgknaaW.PrintWords Go.Proofs.YtigibdkgimgknaaW.PrintLast
/-- What is known of what comes in. -/
def ok132 (x : S132) : Prop := (Lit.int .i64 x.f0).wf = true ∧ (Lit.int .i64 x.f1).wf = true ∧ ((∀ y ∈ x.f2, (Lit.int .i64 y).wf = true) ∧ x.f2.length ≤ maxLen) ∧ (Lit.int .i64 x.f3).wf = true ∧ (Lit.int .i64 x.f4).wf = true ∧ ((∀ y ∈ x.f5, (Lit.int .i64 y).wf = true) ∧ x.f5.length ≤ maxLen)
set_option maxRecDepth 100000 in
theorem opens132 : Opens Try.prog 132 k132 ok132 := by
  have h := opens_iso (f := fun x : S132 => (x.f0, x.f1, x.f2, x.f3, x.f4, x.f5)) (fun z => ⟨⟨z.1, z.2.1, z.2.2.1, z.2.2.2.1, z.2.2.2.2.1, z.2.2.2.2.2⟩, rfl⟩) (opens_struct Try.underlying132 (by kernel_rfl) (opensAt_more rfl rfl (opens_int (T := 3) Try.underlying3 (by kernel_rfl)) (opensAt_more rfl rfl (opens_int (T := 3) Try.underlying3 (by kernel_rfl)) (opensAt_more rfl rfl (opens_slice (T := 41) Try.underlying41 (by kernel_rfl) (opens_int (T := 3) Try.underlying3 (by kernel_rfl))) (opensAt_more rfl rfl (opens_int (T := 3) Try.underlying3 (by kernel_rfl)) (opensAt_more rfl rfl (opens_int (T := 3) Try.underlying3 (by kernel_rfl)) (opensAt_one rfl rfl (opens_slice (T := 41) Try.underlying41 (by kernel_rfl) (opens_int (T := 3) Try.underlying3 (by kernel_rfl))))))))))
  exact h
/-- The plain statement of the law. -/
def laws_FnExactHeightOf.Pure : Prop := ∀ (l0 : List S132), (∀ y ∈ l0, ok132 y) → l0.length ≤ maxLen → ∃ k, laws_FnExactHeightOf.f k l0 = some true
end Go.Proofs.Ytigibdkgimgknaa.MFnExactHeightOf
