/- strings.Split, in the print's own words (out of the kit's shelf contract): the row that it makes. -/
import Derived.Test.YtnmhggdaccbbfaaDoorMShelf
import Derived.Test.YtnmhggdaccbbfaaDoorMWords
import Derived.Test.YtnmhggdaccbbfaaDoorWLast
import Derived.Test.YtnmhggdaccbbfaaDoorWKept
set_option linter.unusedVariables false
set_option linter.unusedSimpArgs false
namespace Go.Proofs.YtnmhggdaccbbfaaDoor.Sp
open Go.RowKit Go.Proofs.YtnmhggdaccbbfaaDoorW.PrintWords Go.Proofs.YtnmhggdaccbbfaaDoorW.PrintLast
theorem split_length (sep : ByteArray) (h1 : 1 ≤ sep.size) (n : Nat) : ∀ s : ByteArray, s.size ≤ n → (Lib.splitB sep 0 (Lib.countB s sep) s).length = Lib.countB s sep + 1 := by
  induction n with
  | zero =>
    intro s hs
    by_cases hm : Lib.indexB s sep = -1
    · rw [Lib.countB_miss s sep hm, Lib.splitB_zero]; rfl
    · obtain ⟨i, hi⟩ : ∃ i : Nat, Lib.indexB s sep = i := ⟨(Lib.indexB s sep).toNat, by have h := Lib.index_ge s.data.toList sep.data.toList; have hu : Lib.indexB s sep = Lib.index s.data.toList sep.data.toList := rfl; omega⟩
      rw [Lib.countB_hit s sep i h1 hi, Nat.add_comm 1, Lib.splitB_hit _ _ _ _ i hi]
      have he : (s.extract (i + sep.size) s.size).size ≤ 0 := by rw [ByteArray.size_extract]; omega
      have hmm : Lib.indexB (s.extract (i + sep.size) s.size) sep = -1 := by
        have hd : (s.extract (i + sep.size) s.size).data.toList = [] := List.length_eq_zero_iff.1 (by have : (s.extract (i + sep.size) s.size).data.toList.length = (s.extract (i + sep.size) s.size).size := rfl; omega)
        show Lib.index (s.extract (i + sep.size) s.size).data.toList sep.data.toList = -1
        rw [hd, Lib.index]
        have : sep.data.toList.isEmpty = false := by
          cases h : sep.data.toList with
          | nil => have : sep.data.toList.length = sep.size := rfl; rw [h] at this; simp at this; omega
          | cons a l => rfl
        rw [this]; rfl
      rw [Lib.countB_miss _ sep hmm, Lib.splitB_zero]
      rfl
  | succ n ih =>
    intro s hs
    by_cases hm : Lib.indexB s sep = -1
    · rw [Lib.countB_miss s sep hm, Lib.splitB_zero]; rfl
    · obtain ⟨i, hi⟩ : ∃ i : Nat, Lib.indexB s sep = i := ⟨(Lib.indexB s sep).toNat, by have h := Lib.index_ge s.data.toList sep.data.toList; have hu : Lib.indexB s sep = Lib.index s.data.toList sep.data.toList := rfl; omega⟩
      rw [Lib.countB_hit s sep i h1 hi, Nat.add_comm 1, Lib.splitB_hit _ _ _ _ i hi, List.length_cons, ih _ (by rw [ByteArray.size_extract]; omega)]
theorem split_own (s sep : ByteArray) (m : Int) (w : World) (hs : s.size < 4294967281) (hm : w.cell? ⟨1, 0, none⟩ = some (.int .i64 m)) (h1 : 1 ≤ sep.size) :
    Calls Tryd.prog 33 #[.string s, .string sep] w fun e w' => ∃ v0_ : Value, e = .returned v0_ ∧ Kd.R Kd.string 9 w' w.heap.size (fun _ => True) v0_ (Lib.splitB sep 0 (Lib.countB s sep) s) ∧ Below w.heap.size w w' := by
  have hl := split_length sep h1 s.size s (Nat.le_refl _)
  have hc : Lib.countB s sep ≤ s.size + 1 := Lib.count_le _ _
  refine (Tryd.strings_Split s sep m w hs hm h1).mono ?_
  rintro e w' ⟨rfl, rfl⟩
  refine ⟨_, rfl, ?_, (Below.refl _ _).alloc (Nat.le_refl _) _⟩
  rw [← hl]
  refine ⟨fun _ _ => trivial, encs Value.string (Lib.splitB sep 0 (Lib.countB s sep) s), ⟨by rw [encs_length]; exact (Nat.mul_one _).symm, .inr ⟨w.heap.size, _, ((Lib.splitB sep 0 (Lib.countB s sep) s).map Value.string).toArray, rfl, Nat.le_refl _, ?_, Nat.le_refl _, ?_, ?_, ?_⟩⟩, Kd.reps_scalar _⟩
  · show (w.heap.push _)[w.heap.size]? = _
    simp
  · rw [hl]; unfold maxLen; omega
  · show ((Lib.splitB sep 0 (Lib.countB s sep) s).map Value.string).toArray.size = _
    rw [List.size_toArray, List.length_map]
    exact (Nat.mul_one _).symm
  · show List.take ((Lib.splitB sep 0 (Lib.countB s sep) s).length * 1) ((Lib.splitB sep 0 (Lib.countB s sep) s).map Value.string) = encs Value.string _
    rw [Nat.mul_one, List.take_of_length_le (by rw [List.length_map]; exact Nat.le_refl _)]
    simp [encs]
end Go.Proofs.YtnmhggdaccbbfaaDoor.Sp
