/- What comes in of the types that FnExactRuleAt takes, told by the print's makes; the plain statement. -/
import Derived.Test.YtnmhggdaccbbfaaMFnExactRuleAtx0
import Derived.Test.YtnmhggdaccbbfaaMFnExactRuleAtx8
import Derived.Test.YtnmhggdaccbbfaaMOpens
namespace Go.Proofs.Ytnmhggdaccbbfaa.MFnExactRuleAt
open Go.RowKit Go.Proofs.YtnmhggdaccbbfaaW.PrintWords Go.Proofs.YtnmhggdaccbbfaaW.PrintLast
/-- What is known of what comes in. -/
def ok126 (x : S126) : Prop := (Lit.int .i64 x.f0).wf = true ∧ (Lit.int .i64 x.f1).wf = true ∧ x.f2.size ≤ maxLen ∧ ((∀ y ∈ x.f3, (Lit.int .i64 y).wf = true) ∧ x.f3.length ≤ maxLen)
set_option maxRecDepth 100000 in
theorem opens126 : Opens Try.prog 126 k126 ok126 := by
  have h := opens_iso (f := fun x : S126 => (x.f0, x.f1, x.f2, x.f3)) (fun z => ⟨⟨z.1, z.2.1, z.2.2.1, z.2.2.2⟩, rfl⟩) (opens_struct Try.underlying126 (by kernel_rfl) (opensAt_more rfl rfl (opens_int (T := 3) Try.underlying3 (by kernel_rfl)) (opensAt_more rfl rfl (opens_int (T := 3) Try.underlying3 (by kernel_rfl)) (opensAt_more rfl rfl (opens_string (T := 9) Try.underlying9 (by kernel_rfl)) (opensAt_one rfl rfl (opens_slice (T := 24) Try.underlying24 (by kernel_rfl) (opens_int (T := 3) Try.underlying3 (by kernel_rfl))))))))
  exact h
/-- What is known of what comes in. -/
def ok52 (x : S52) : Prop := ((∀ y ∈ x.f0, ok126 y) ∧ x.f0.length ≤ maxLen)
set_option maxRecDepth 100000 in
theorem opens52 : Opens Try.prog 52 k52 ok52 := by
  have h := opens_iso (f := fun x : S52 => (x.f0)) (fun z => ⟨⟨z⟩, rfl⟩) (opens_struct Try.underlying52 (by kernel_rfl) (opensAt_one rfl rfl (opens_slice (T := 50) Try.underlying50 (by kernel_rfl) opens126)))
  exact h
/-- What is known of what comes in. -/
def ok176 (x : S176) : Prop := (Lit.int .i64 x.f0).wf = true ∧ x.f1.size ≤ maxLen ∧ ((∀ y ∈ x.f2, ok52 y) ∧ x.f2.length ≤ maxLen) ∧ x.f3.size ≤ maxLen
set_option maxRecDepth 100000 in
theorem opens176 : Opens Try.prog 176 k176 ok176 := by
  have h := opens_iso (f := fun x : S176 => (x.f0, x.f1, x.f2, x.f3)) (fun z => ⟨⟨z.1, z.2.1, z.2.2.1, z.2.2.2⟩, rfl⟩) (opens_struct Try.underlying176 (by kernel_rfl) (opensAt_more rfl rfl (opens_int (T := 3) Try.underlying3 (by kernel_rfl)) (opensAt_more rfl rfl (opens_string (T := 9) Try.underlying9 (by kernel_rfl)) (opensAt_more rfl rfl (opens_slice (T := 174) Try.underlying174 (by kernel_rfl) opens52) (opensAt_one rfl rfl (opens_string (T := 9) Try.underlying9 (by kernel_rfl)))))))
  exact h
/-- What is known of what comes in. -/
def ok155 (x : S155) : Prop := ((∀ y ∈ x.f0, ok176 y) ∧ x.f0.length ≤ maxLen)
set_option maxRecDepth 100000 in
theorem opens155 : Opens Try.prog 155 k155 ok155 := by
  have h := opens_iso (f := fun x : S155 => (x.f0)) (fun z => ⟨⟨z⟩, rfl⟩) (opens_struct Try.underlying155 (by kernel_rfl) (opensAt_one rfl rfl (opens_slice (T := 153) Try.underlying153 (by kernel_rfl) opens176)))
  exact h
/-- What is known of what comes in. -/
def ok122 (x : S122) : Prop := x.f0.size ≤ maxLen ∧ ((∀ y ∈ x.f1, y.size ≤ maxLen) ∧ x.f1.length ≤ maxLen) ∧ ((∀ y ∈ x.f2, ok155 y) ∧ x.f2.length ≤ maxLen)
set_option maxRecDepth 100000 in
theorem opens122 : Opens Try.prog 122 k122 ok122 := by
  have h := opens_iso (f := fun x : S122 => (x.f0, x.f1, x.f2)) (fun z => ⟨⟨z.1, z.2.1, z.2.2⟩, rfl⟩) (opens_struct Try.underlying122 (by kernel_rfl) (opensAt_more rfl rfl (opens_string (T := 9) Try.underlying9 (by kernel_rfl)) (opensAt_more rfl rfl (opens_slice (T := 61) Try.underlying61 (by kernel_rfl) (opens_string (T := 9) Try.underlying9 (by kernel_rfl))) (opensAt_one rfl rfl (opens_slice (T := 120) Try.underlying120 (by kernel_rfl) opens155)))))
  exact h
/-- The plain statement of the law. -/
def laws_FnExactRuleAt.Pure : Prop := ∀ (l0 : List S122) (a1 : ByteArray), (∀ y ∈ l0, ok122 y) → l0.length ≤ maxLen → a1.size ≤ 140737488351232 → ∃ k, laws_FnExactRuleAt.f k l0 a1 = some true
end Go.Proofs.Ytnmhggdaccbbfaa.MFnExactRuleAt
