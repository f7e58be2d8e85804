/- Library functions told by contracts: the plain form that this prover's print takes. -/
import Derived.Test.YtnmhggdaccbbfaaDoorMShelf
import Derived.Test.YtnmhggdaccbbfaaDoorMWords
set_option linter.unusedVariables false
namespace Go.Proofs.YtnmhggdaccbbfaaDoorW.PrintWords
open Go.RowKit

/-- What memory holds of the library's tables, from the start on. -/
def Tb (w : World) : Prop := (Lib.TabIs Tryd.prog w "internal/strconv.uint64pow10" .u64 Lib.pow10Tab)
theorem var_below {P : Program} {w w' : World} {name : String} {cs : Array Value} (h : w.var? P name = some cs) (hb : Below w.heap.size w w') : w'.var? P name = some cs := by
  unfold World.var? at h ⊢
  cases hg : P.globalNamed name with
  | none => rw [hg] at h; simp at h
  | some g =>
    rw [hg] at h
    simp only [Option.bind_some] at h ⊢
    have hlt : g < w.heap.size := by
      rcases Nat.lt_or_ge g w.heap.size with hl | hl
      · exact hl
      · exfalso
        rw [Array.getElem?_eq_none hl] at h
        simp at h
    rw [hb.block g hlt]
    exact h
theorem Tb.below {w w' : World} (h : Tb w) (hb : Below w.heap.size w w') : Tb w' := var_below h hb
theorem Tb.pow10 {w : World} (h : Tb w) : Lib.TabIs Tryd.prog w "internal/strconv.uint64pow10" .u64 Lib.pow10Tab := h

def strconv_Itoa.f (a0 : Int) : Option ByteArray := if -9223372036854775808 ≤ a0 then (if a0 ≤ 9223372036854775807 then some ⟨(Lib.itoa a0).toArray⟩ else none) else none
theorem strconv_Itoa.calls (a0 : Int) (r : ByteArray) (w : World) (htab_ : Tb w) (h : strconv_Itoa.f a0 = some r) :
    Calls Tryd.prog 31 #[.int .i64 a0] w fun e w' => e = .returned (.string r) ∧ Below w.heap.size w w' := by
  unfold strconv_Itoa.f at h
  by_cases h0 : -9223372036854775808 ≤ a0
  · rw [if_pos h0] at h
    by_cases h1 : a0 ≤ 9223372036854775807
    · rw [if_pos h1] at h
      obtain rfl := Option.some.inj h
      refine (Tryd.strconv_Itoa a0 h0 h1 w (Tb.pow10 htab_)).mono ?_
      rintro e w' ⟨rfl, k, os, rfl⟩
      refine ⟨rfl, rfl, rfl, rfl, ?_, fun b hb => ?_⟩
      · show w.heap.size ≤ (w.heap ++ os).size
        rw [Array.size_append]; omega
      · show (w.heap ++ os)[b]? = _
        rw [Array.getElem?_append_left hb]
    · rw [if_neg h1] at h; cases h
  · rw [if_neg h0] at h; cases h
end Go.Proofs.YtnmhggdaccbbfaaDoorW.PrintWords
