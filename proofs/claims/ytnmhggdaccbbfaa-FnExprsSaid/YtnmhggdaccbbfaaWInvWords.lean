import Derived.Test.YtnmhggdaccbbfaaWInv
import Derived.Test.YtnmhggdaccbbfaaWFootNe
namespace Go.Proofs.YtnmhggdaccbbfaaW.PrintWords
open Go.RowKit
end Go.Proofs.YtnmhggdaccbbfaaW.PrintWords
namespace Go.Proofs.YtnmhggdaccbbfaaW.PrintLast
section
variable {ops : Array Oper} {a : Act} {o og : Oper} {g : Nat} {t : Tmp} {u : Bool}
end
end Go.Proofs.YtnmhggdaccbbfaaW.PrintLast
