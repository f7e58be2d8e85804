/- What comes in of the types that FnExactTreeText takes, told by the print's makes; the plain statement. -/
import Derived.Test.YtkbgmojomgelbaaMFnExactTreeTextx0
import Derived.Test.YtkbgmojomgelbaaMFnExactTreeTextx12
import Derived.Test.YtkbgmojomgelbaaMOpens
namespace Go.Proofs.Ytkbgmojomgelbaa.MFnExactTreeText
open Go.RowKit Go.Proofs.YtkbgmojomgelbaaW.PrintWords Go.Proofs.YtkbgmojomgelbaaW.PrintLast
/-- What is known of what comes in. -/
def ok130 (x : S130) : Prop := (Lit.int .i64 x.f0).wf = true ∧ (Lit.int .i64 x.f1).wf = true ∧ x.f2.size ≤ maxLen ∧ ((∀ y ∈ x.f3, (Lit.int .i64 y).wf = true) ∧ x.f3.length ≤ maxLen)
set_option maxRecDepth 100000 in
theorem opens130 : Opens Try.prog 130 k130 ok130 := by
  have h := opens_iso (f := fun x : S130 => (x.f0, x.f1, x.f2, x.f3)) (fun z => ⟨⟨z.1, z.2.1, z.2.2.1, z.2.2.2⟩, rfl⟩) (opens_struct Try.underlying130 (by kernel_rfl) (opensAt_more rfl rfl (opens_int (T := 3) Try.underlying3 (by kernel_rfl)) (opensAt_more rfl rfl (opens_int (T := 3) Try.underlying3 (by kernel_rfl)) (opensAt_more rfl rfl (opens_string (T := 9) Try.underlying9 (by kernel_rfl)) (opensAt_one rfl rfl (opens_slice (T := 45) Try.underlying45 (by kernel_rfl) (opens_int (T := 3) Try.underlying3 (by kernel_rfl))))))))
  exact h
/-- What is known of what comes in. -/
def ok119 (x : S119) : Prop := ((∀ y ∈ x.f0, ok130 y) ∧ x.f0.length ≤ maxLen)
set_option maxRecDepth 100000 in
theorem opens119 : Opens Try.prog 119 k119 ok119 := by
  have h := opens_iso (f := fun x : S119 => (x.f0)) (fun z => ⟨⟨z⟩, rfl⟩) (opens_struct Try.underlying119 (by kernel_rfl) (opensAt_one rfl rfl (opens_slice (T := 117) Try.underlying117 (by kernel_rfl) opens130)))
  exact h
/-- What is known of what comes in. -/
def ok107 (x : S107) : Prop := (Lit.int .i64 x.f0).wf = true ∧ x.f1.size ≤ maxLen ∧ ((∀ y ∈ x.f2, ok119 y) ∧ x.f2.length ≤ maxLen) ∧ x.f3.size ≤ maxLen
set_option maxRecDepth 100000 in
theorem opens107 : Opens Try.prog 107 k107 ok107 := by
  have h := opens_iso (f := fun x : S107 => (x.f0, x.f1, x.f2, x.f3)) (fun z => ⟨⟨z.1, z.2.1, z.2.2.1, z.2.2.2⟩, rfl⟩) (opens_struct Try.underlying107 (by kernel_rfl) (opensAt_more rfl rfl (opens_int (T := 3) Try.underlying3 (by kernel_rfl)) (opensAt_more rfl rfl (opens_string (T := 9) Try.underlying9 (by kernel_rfl)) (opensAt_more rfl rfl (opens_slice (T := 105) Try.underlying105 (by kernel_rfl) opens119) (opensAt_one rfl rfl (opens_string (T := 9) Try.underlying9 (by kernel_rfl)))))))
  exact h
/-- What is known of what comes in. -/
def ok92 (x : S92) : Prop := ((∀ y ∈ x.f0, ok107 y) ∧ x.f0.length ≤ maxLen)
set_option maxRecDepth 100000 in
theorem opens92 : Opens Try.prog 92 k92 ok92 := by
  have h := opens_iso (f := fun x : S92 => (x.f0)) (fun z => ⟨⟨z⟩, rfl⟩) (opens_struct Try.underlying92 (by kernel_rfl) (opensAt_one rfl rfl (opens_slice (T := 90) Try.underlying90 (by kernel_rfl) opens107)))
  exact h
/-- What is known of what comes in. -/
def ok61 (x : S61) : Prop := x.f0.size ≤ maxLen ∧ ((∀ y ∈ x.f1, y.size ≤ maxLen) ∧ x.f1.length ≤ maxLen) ∧ ((∀ y ∈ x.f2, ok92 y) ∧ x.f2.length ≤ maxLen)
set_option maxRecDepth 100000 in
theorem opens61 : Opens Try.prog 61 k61 ok61 := by
  have h := opens_iso (f := fun x : S61 => (x.f0, x.f1, x.f2)) (fun z => ⟨⟨z.1, z.2.1, z.2.2⟩, rfl⟩) (opens_struct Try.underlying61 (by kernel_rfl) (opensAt_more rfl rfl (opens_string (T := 9) Try.underlying9 (by kernel_rfl)) (opensAt_more rfl rfl (opens_slice (T := 44) Try.underlying44 (by kernel_rfl) (opens_string (T := 9) Try.underlying9 (by kernel_rfl))) (opensAt_one rfl rfl (opens_slice (T := 59) Try.underlying59 (by kernel_rfl) opens92)))))
  exact h
/-- What is known of what comes in. -/
def ok63 (x : S63) : Prop := (Lit.int .i64 x.f0).wf = true ∧ (Lit.int .i64 x.f1).wf = true ∧ ((∀ y ∈ x.f2, (Lit.int .i64 y).wf = true) ∧ x.f2.length ≤ maxLen) ∧ (Lit.int .i64 x.f3).wf = true ∧ (Lit.int .i64 x.f4).wf = true ∧ ((∀ y ∈ x.f5, (Lit.int .i64 y).wf = true) ∧ x.f5.length ≤ maxLen)
set_option maxRecDepth 100000 in
theorem opens63 : Opens Try.prog 63 k63 ok63 := by
  have h := opens_iso (f := fun x : S63 => (x.f0, x.f1, x.f2, x.f3, x.f4, x.f5)) (fun z => ⟨⟨z.1, z.2.1, z.2.2.1, z.2.2.2.1, z.2.2.2.2.1, z.2.2.2.2.2⟩, rfl⟩) (opens_struct Try.underlying63 (by kernel_rfl) (opensAt_more rfl rfl (opens_int (T := 3) Try.underlying3 (by kernel_rfl)) (opensAt_more rfl rfl (opens_int (T := 3) Try.underlying3 (by kernel_rfl)) (opensAt_more rfl rfl (opens_slice (T := 45) Try.underlying45 (by kernel_rfl) (opens_int (T := 3) Try.underlying3 (by kernel_rfl))) (opensAt_more rfl rfl (opens_int (T := 3) Try.underlying3 (by kernel_rfl)) (opensAt_more rfl rfl (opens_int (T := 3) Try.underlying3 (by kernel_rfl)) (opensAt_one rfl rfl (opens_slice (T := 45) Try.underlying45 (by kernel_rfl) (opens_int (T := 3) Try.underlying3 (by kernel_rfl))))))))))
  exact h
/-- The plain statement of the law. -/
def laws_FnExactTreeText.Pure : Prop := ∀ (l0 : List S61) (l1 : List S63), (∀ y ∈ l0, ok61 y) → l0.length ≤ maxLen → (∀ y ∈ l1, ok63 y) → l1.length ≤ maxLen → ∃ k, laws_FnExactTreeText.f k l0 l1 = some true
end Go.Proofs.Ytkbgmojomgelbaa.MFnExactTreeText
