/- What comes in of the types that FnExactFreeOf takes, told by the print's makes; the plain statement. -/
import Derived.Test.YtnmhggdaccbbfaaMFnExactFreeOfx0
import Derived.Test.YtnmhggdaccbbfaaMFnExactFreeOfx8
import Derived.Test.YtnmhggdaccbbfaaMOpens
namespace Go.Proofs.Ytnmhggdaccbbfaa.MFnExactFreeOf
open Go.RowKit Go.Proofs.YtnmhggdaccbbfaaW.PrintWords Go.Proofs.YtnmhggdaccbbfaaW.PrintLast
/-- What is known of what comes in. -/
def ok126 (x : S126) : Prop := (Lit.int .i64 x.f0).wf = true ∧ (Lit.int .i64 x.f1).wf = true ∧ x.f2.size ≤ maxLen ∧ ((∀ y ∈ x.f3, (Lit.int .i64 y).wf = true) ∧ x.f3.length ≤ maxLen)
set_option maxRecDepth 100000 in
theorem opens126 : Opens Try.prog 126 k126 ok126 := by
  have h := opens_iso (f := fun x : S126 => (x.f0, x.f1, x.f2, x.f3)) (fun z => ⟨⟨z.1, z.2.1, z.2.2.1, z.2.2.2⟩, rfl⟩) (opens_struct Try.underlying126 (by kernel_rfl) (opensAt_more rfl rfl (opens_int (T := 3) Try.underlying3 (by kernel_rfl)) (opensAt_more rfl rfl (opens_int (T := 3) Try.underlying3 (by kernel_rfl)) (opensAt_more rfl rfl (opens_string (T := 9) Try.underlying9 (by kernel_rfl)) (opensAt_one rfl rfl (opens_slice (T := 24) Try.underlying24 (by kernel_rfl) (opens_int (T := 3) Try.underlying3 (by kernel_rfl))))))))
  exact h
/-- The plain statement of the law. -/
def laws_FnExactFreeOf.Pure : Prop := ∀ (l0 : List S126), (∀ y ∈ l0, ok126 y) → l0.length ≤ maxLen → ∃ k, laws_FnExactFreeOf.f k l0 = some true
end Go.Proofs.Ytnmhggdaccbbfaa.MFnExactFreeOf
