/- What comes in of the types that FnExactEnvOnly takes, told by the print's makes; the plain statement. -/
import Derived.Test.YtigibdkgimgknaaMFnExactEnvOnlyx0
import Derived.Test.YtigibdkgimgknaaMFnExactEnvOnlyx4
import Derived.Test.YtigibdkgimgknaaMOpens
namespace Go.Proofs.Ytigibdkgimgknaa.MFnExactEnvOnly
open Go.RowKit Go.Proofs.YtigibdkgimgknaaW.PrintWords Go.Proofs.YtigibdkgimgknaaW.PrintLast
/-- What is known of what comes in. -/
def ok92 (x : S92) : Prop := x.f0.size ≤ maxLen ∧ (Lit.int .i64 x.f1).wf = true
set_option maxRecDepth 100000 in
theorem opens92 : Opens Try.prog 92 k92 ok92 := by
  have h := opens_iso (f := fun x : S92 => (x.f0, x.f1)) (fun z => ⟨⟨z.1, z.2⟩, rfl⟩) (opens_struct Try.underlying92 (by kernel_rfl) (opensAt_more rfl rfl (opens_string (T := 9) Try.underlying9 (by kernel_rfl)) (opensAt_one rfl rfl (opens_int (T := 3) Try.underlying3 (by kernel_rfl)))))
  exact h
/-- The plain statement of the law. -/
def laws_FnExactEnvOnly.Pure : Prop := ∀ (l0 : List S92) (l1 : List ByteArray), (∀ y ∈ l0, ok92 y) → l0.length ≤ maxLen → (∀ y ∈ l1, y.size ≤ maxLen) → l1.length ≤ maxLen → ∃ k, laws_FnExactEnvOnly.f k l0 l1 = some true
end Go.Proofs.Ytigibdkgimgknaa.MFnExactEnvOnly
