/- What comes in of the types that FnExactEnvText takes, told by the print's makes; the plain statement. -/
import Derived.Test.YtnmhggdaccbbfaaDoorMFnExactEnvTextx0
import Derived.Test.YtnmhggdaccbbfaaDoorMFnExactEnvTextx3
import Derived.Test.YtnmhggdaccbbfaaDoorMOpens
namespace Go.Proofs.YtnmhggdaccbbfaaDoor.MFnExactEnvText
open Go.RowKit Go.Proofs.YtnmhggdaccbbfaaDoorW.PrintWords Go.Proofs.YtnmhggdaccbbfaaDoorW.PrintLast
/-- What is known of what comes in. -/
def ok59 (x : S59) : Prop := x.f0.size ≤ maxLen ∧ (Lit.int .i64 x.f1).wf = true
set_option maxRecDepth 100000 in
theorem opens59 : Opens Tryd.prog 59 k59 ok59 := by
  have h := opens_iso (f := fun x : S59 => (x.f0, x.f1)) (fun z => ⟨⟨z.1, z.2⟩, rfl⟩) (opens_struct Tryd.underlying59 (by kernel_rfl) (opensAt_more rfl rfl (opens_string (T := 9) Tryd.underlying9 (by kernel_rfl)) (opensAt_one rfl rfl (opens_int (T := 3) Tryd.underlying3 (by kernel_rfl)))))
  exact h
/-- The plain statement of the law. -/
def laws_FnExactEnvText.Pure : Prop := ∀ (l0 : List S59), (∀ y ∈ l0, ok59 y) → l0.length ≤ maxLen → ∃ k, laws_FnExactEnvText.f k l0 = some true
end Go.Proofs.YtnmhggdaccbbfaaDoor.MFnExactEnvText
