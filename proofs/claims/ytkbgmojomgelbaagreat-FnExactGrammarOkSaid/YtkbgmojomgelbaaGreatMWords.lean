import Derived.Test.YtkbgmojomgelbaaGreatWMore
namespace Go.Proofs.YtkbgmojomgelbaaGreatW.PrintWords
open Go.RowKit
theorem store_own {P : Program} {α : Type} {d : Kd α} {e base : Nat} {ok : Nat → Prop} {w : World} {v : Value} {xs : List α} (h : d.R e w base ok v xs) :
    ∀ (W : World) (a : Addr) (m : Mode), (store a v m).run P W = stored P W a v m := by
  intro W a m
  obtain ⟨_, inner, ho, _⟩ := h
  obtain ⟨A, c, rfl⟩ := own_slice ho
  exact run_store_slice P W a m A _ c
theorem isEmpty_ne {α : Type} [BEq (List α)] [LawfulBEq (List α)] (l : List α) : l.isEmpty = !(l != []) := by
  cases l with
  | nil => simp
  | cons a l => simp [bne, beq_eq_false_iff_ne.2 (List.cons_ne_nil a l)]
theorem isEmpty_ne' {α : Type} [BEq (List α)] [LawfulBEq (List α)] (l : List α) : (!l.isEmpty) = (l != []) := by rw [isEmpty_ne, Bool.not_not]
theorem isEmpty_eq {α : Type} [BEq (List α)] [LawfulBEq (List α)] (l : List α) : l.isEmpty = (l == []) := by rw [isEmpty_ne, bne, Bool.not_not]
theorem bytesLess_or (a b : List UInt8) : (Op.bytesLess a b || a == b) = !(Op.bytesLess b a) := by
  induction a generalizing b with
  | nil => cases b <;> simp [Op.bytesLess]
  | cons x a ih =>
    cases b with
    | nil => simp [Op.bytesLess]
    | cons y b =>
      have h := ih b
      simp only [Op.bytesLess]
      by_cases h1 : x < y
      · have h2 : ¬ y < x := fun h2 => absurd (UInt8.lt_trans h1 h2) (UInt8.lt_irrefl x)
        have h3 : y ≠ x := fun e => by subst e; exact absurd h1 (UInt8.lt_irrefl _)
        simp [h1, h2, h3]
      · by_cases h2 : y < x
        · have h3 : x ≠ y := fun e => by subst e; exact absurd h2 (UInt8.lt_irrefl _)
          simp [h1, h2, h3]
        · have h3 : x = y := UInt8.le_antisymm (UInt8.not_lt.1 h2) (UInt8.not_lt.1 h1)
          subst h3
          simp [h1]
          simpa using h
theorem string_geq (t : TypeId) (a b : ByteArray) : binOp .geq t (.string a) (.string b) = pure (.bool !(Op.bytesLess a.toList b.toList)) := by simp [binOp, Op.stringOp]
theorem string_gtr (t : TypeId) (a b : ByteArray) : binOp .gtr t (.string a) (.string b) = pure (.bool (Op.bytesLess b.toList a.toList)) := by
  have h := bytesLess_or a.toList b.toList
  simp [binOp, Op.stringOp, h]
theorem string_leq (t : TypeId) (a b : ByteArray) : binOp .leq t (.string a) (.string b) = pure (.bool !(Op.bytesLess b.toList a.toList)) := by
  have h := bytesLess_or a.toList b.toList
  simp [binOp, Op.stringOp, h]
attribute [go_sem] string_geq string_gtr string_leq
end Go.Proofs.YtkbgmojomgelbaaGreatW.PrintWords
