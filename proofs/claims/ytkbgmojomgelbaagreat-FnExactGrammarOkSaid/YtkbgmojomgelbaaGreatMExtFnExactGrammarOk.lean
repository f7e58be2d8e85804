/- Library functions told by contracts: the plain form that this prover's print takes. -/
import Derived.Test.YtkbgmojomgelbaaGreatMShelf
import Derived.Test.YtkbgmojomgelbaaGreatMWords
set_option linter.unusedVariables false
namespace Go.Proofs.YtkbgmojomgelbaaGreatW.PrintWords
open Go.RowKit

/-- Where a byte stands first in a string, or -1. -/
def strings_IndexByte.f (a0 : ByteArray) (a1 : Int) : Option (Int) := some (Go.Lib.indexByte a0.data.toList a1.toNat.toUInt8)
theorem strings_IndexByte.calls (a0 : ByteArray) (a1 : Int) (r : Int) (w : World) (h : strings_IndexByte.f a0 a1 = some r) :
    Calls Tryz.prog 97 #[.string a0, .int .u8 a1] w fun e w' => e = .returned (.int .i64 r) ∧ Drawn0 w w' := by
  refine (Tryz.strings_IndexByte a0 a1 w).mono ?_
  rintro e w' ⟨rfl, rfl⟩
  obtain rfl := Option.some.inj h
  exact ⟨rfl, by repeat (first | exact Drawn0.refl _ | apply Drawn0.step)⟩
end Go.Proofs.YtkbgmojomgelbaaGreatW.PrintWords
