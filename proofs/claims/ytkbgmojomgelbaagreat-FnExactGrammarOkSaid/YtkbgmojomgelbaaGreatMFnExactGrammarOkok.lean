/- What comes in of the types that FnExactGrammarOk takes, told by the print's makes; the plain statement. -/
import Derived.Test.YtkbgmojomgelbaaGreatMFnExactGrammarOkx0
import Derived.Test.YtkbgmojomgelbaaGreatMFnExactGrammarOkx22
import Derived.Test.YtkbgmojomgelbaaGreatMOpens
namespace Go.Proofs.YtkbgmojomgelbaaGreat.MFnExactGrammarOk
open Go.RowKit Go.Proofs.YtkbgmojomgelbaaGreatW.PrintWords Go.Proofs.YtkbgmojomgelbaaGreatW.PrintLast
/-- What is known of what comes in. -/
def ok219 (x : S219) : Prop := (Lit.int .i64 x.f0).wf = true ∧ (Lit.int .i64 x.f1).wf = true ∧ x.f2.size ≤ maxLen ∧ ((∀ y ∈ x.f3, (Lit.int .i64 y).wf = true) ∧ x.f3.length ≤ maxLen)
set_option maxRecDepth 100000 in
theorem opens219 : Opens Tryz.prog 219 k219 ok219 := by
  have h := opens_iso (f := fun x : S219 => (x.f0, x.f1, x.f2, x.f3)) (fun z => ⟨⟨z.1, z.2.1, z.2.2.1, z.2.2.2⟩, rfl⟩) (opens_struct Tryz.underlying219 (by kernel_rfl) (opensAt_more rfl rfl (opens_int (T := 3) Tryz.underlying3 (by kernel_rfl)) (opensAt_more rfl rfl (opens_int (T := 3) Tryz.underlying3 (by kernel_rfl)) (opensAt_more rfl rfl (opens_string (T := 9) Tryz.underlying9 (by kernel_rfl)) (opensAt_one rfl rfl (opens_slice (T := 64) Tryz.underlying64 (by kernel_rfl) (opens_int (T := 3) Tryz.underlying3 (by kernel_rfl))))))))
  exact h
/-- What is known of what comes in. -/
def ok200 (x : S200) : Prop := ((∀ y ∈ x.f0, ok219 y) ∧ x.f0.length ≤ maxLen)
set_option maxRecDepth 100000 in
theorem opens200 : Opens Tryz.prog 200 k200 ok200 := by
  have h := opens_iso (f := fun x : S200 => (x.f0)) (fun z => ⟨⟨z⟩, rfl⟩) (opens_struct Tryz.underlying200 (by kernel_rfl) (opensAt_one rfl rfl (opens_slice (T := 198) Tryz.underlying198 (by kernel_rfl) opens219)))
  exact h
/-- What is known of what comes in. -/
def ok170 (x : S170) : Prop := (Lit.int .i64 x.f0).wf = true ∧ x.f1.size ≤ maxLen ∧ ((∀ y ∈ x.f2, ok200 y) ∧ x.f2.length ≤ maxLen) ∧ x.f3.size ≤ maxLen
set_option maxRecDepth 100000 in
theorem opens170 : Opens Tryz.prog 170 k170 ok170 := by
  have h := opens_iso (f := fun x : S170 => (x.f0, x.f1, x.f2, x.f3)) (fun z => ⟨⟨z.1, z.2.1, z.2.2.1, z.2.2.2⟩, rfl⟩) (opens_struct Tryz.underlying170 (by kernel_rfl) (opensAt_more rfl rfl (opens_int (T := 3) Tryz.underlying3 (by kernel_rfl)) (opensAt_more rfl rfl (opens_string (T := 9) Tryz.underlying9 (by kernel_rfl)) (opensAt_more rfl rfl (opens_slice (T := 168) Tryz.underlying168 (by kernel_rfl) opens200) (opensAt_one rfl rfl (opens_string (T := 9) Tryz.underlying9 (by kernel_rfl)))))))
  exact h
/-- What is known of what comes in. -/
def ok131 (x : S131) : Prop := ((∀ y ∈ x.f0, ok170 y) ∧ x.f0.length ≤ maxLen)
set_option maxRecDepth 100000 in
theorem opens131 : Opens Tryz.prog 131 k131 ok131 := by
  have h := opens_iso (f := fun x : S131 => (x.f0)) (fun z => ⟨⟨z⟩, rfl⟩) (opens_struct Tryz.underlying131 (by kernel_rfl) (opensAt_one rfl rfl (opens_slice (T := 129) Tryz.underlying129 (by kernel_rfl) opens170)))
  exact h
/-- What is known of what comes in. -/
def ok73 (x : S73) : Prop := x.f0.size ≤ maxLen ∧ ((∀ y ∈ x.f1, y.size ≤ maxLen) ∧ x.f1.length ≤ maxLen) ∧ ((∀ y ∈ x.f2, ok131 y) ∧ x.f2.length ≤ maxLen)
set_option maxRecDepth 100000 in
theorem opens73 : Opens Tryz.prog 73 k73 ok73 := by
  have h := opens_iso (f := fun x : S73 => (x.f0, x.f1, x.f2)) (fun z => ⟨⟨z.1, z.2.1, z.2.2⟩, rfl⟩) (opens_struct Tryz.underlying73 (by kernel_rfl) (opensAt_more rfl rfl (opens_string (T := 9) Tryz.underlying9 (by kernel_rfl)) (opensAt_more rfl rfl (opens_slice (T := 46) Tryz.underlying46 (by kernel_rfl) (opens_string (T := 9) Tryz.underlying9 (by kernel_rfl))) (opensAt_one rfl rfl (opens_slice (T := 71) Tryz.underlying71 (by kernel_rfl) opens131)))))
  exact h
/-- The plain statement of the law. -/
def laws_FnExactGrammarOk.Pure : Prop := ∀ (l0 : List S73), (∀ y ∈ l0, ok73 y) → l0.length ≤ maxLen → ∃ k, laws_FnExactGrammarOk.f k l0 = some true
end Go.Proofs.YtkbgmojomgelbaaGreat.MFnExactGrammarOk
