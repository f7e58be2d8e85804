/- Library functions told by contracts: the plain form that this prover's print takes. -/
import Derived.Test.YtnmhggdaccbbfaaDoorMShelf
import Derived.Test.YtnmhggdaccbbfaaDoorMWords
set_option linter.unusedVariables false
namespace Go.Proofs.YtnmhggdaccbbfaaDoorW.PrintWords
open Go.RowKit

/-- What memory holds of the library's tables, from the start on. -/
def Tb (w : World) : Prop := (∃ m : Int, w.cell? ⟨1, 0, none⟩ = some (.int .i64 m))
theorem var_below {P : Program} {w w' : World} {name : String} {cs : Array Value} (h : w.var? P name = some cs) (hb : Below w.heap.size w w') : w'.var? P name = some cs := by
  unfold World.var? at h ⊢
  cases hg : P.globalNamed name with
  | none => rw [hg] at h; simp at h
  | some g =>
    rw [hg] at h
    simp only [Option.bind_some] at h ⊢
    have hlt : g < w.heap.size := by
      rcases Nat.lt_or_ge g w.heap.size with hl | hl
      · exact hl
      · exfalso
        rw [Array.getElem?_eq_none hl] at h
        simp at h
    rw [hb.block g hlt]
    exact h
theorem Tb.below {w w' : World} (h : Tb w) (hb : Below w.heap.size w w') : Tb w' := (let ⟨m, hm⟩ := h; ⟨m, (hb.cell (World.block_lt_of_cell? w _ hm)).trans hm⟩)
theorem Tb.maxlen {w : World} (h : Tb w) : ∃ m : Int, w.cell? ⟨1, 0, none⟩ = some (.int .i64 m) := h
end Go.Proofs.YtnmhggdaccbbfaaDoorW.PrintWords
