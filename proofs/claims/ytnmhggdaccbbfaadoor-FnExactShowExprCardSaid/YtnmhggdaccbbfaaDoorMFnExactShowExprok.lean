/- What comes in of the types that FnExactShowExpr takes, told by the print's makes; the plain statement. -/
import Derived.Test.YtnmhggdaccbbfaaDoorMFnExactShowExprx0
import Derived.Test.YtnmhggdaccbbfaaDoorMFnExactShowExprx9
import Derived.Test.YtnmhggdaccbbfaaDoorMOpens
namespace Go.Proofs.YtnmhggdaccbbfaaDoor.MFnExactShowExpr
open Go.RowKit Go.Proofs.YtnmhggdaccbbfaaDoorW.PrintWords Go.Proofs.YtnmhggdaccbbfaaDoorW.PrintLast
/-- What is known of what comes in. -/
def ok87 (x : S87) : Prop := (Lit.int .i64 x.f0).wf = true ∧ (Lit.int .i64 x.f1).wf = true ∧ x.f2.size ≤ maxLen ∧ ((∀ y ∈ x.f3, (Lit.int .i64 y).wf = true) ∧ x.f3.length ≤ maxLen)
set_option maxRecDepth 100000 in
theorem opens87 : Opens Tryd.prog 87 k87 ok87 := by
  have h := opens_iso (f := fun x : S87 => (x.f0, x.f1, x.f2, x.f3)) (fun z => ⟨⟨z.1, z.2.1, z.2.2.1, z.2.2.2⟩, rfl⟩) (opens_struct Tryd.underlying87 (by kernel_rfl) (opensAt_more rfl rfl (opens_int (T := 3) Tryd.underlying3 (by kernel_rfl)) (opensAt_more rfl rfl (opens_int (T := 3) Tryd.underlying3 (by kernel_rfl)) (opensAt_more rfl rfl (opens_string (T := 9) Tryd.underlying9 (by kernel_rfl)) (opensAt_one rfl rfl (opens_slice (T := 68) Tryd.underlying68 (by kernel_rfl) (opens_int (T := 3) Tryd.underlying3 (by kernel_rfl))))))))
  exact h
/-- The plain statement of the law. -/
def laws_FnExactShowExpr.Pure : Prop := ∀ (l0 : List S87), (∀ y ∈ l0, ok87 y) → l0.length ≤ maxLen → ∃ k, laws_FnExactShowExpr.f k l0 = some true
end Go.Proofs.YtnmhggdaccbbfaaDoor.MFnExactShowExpr
