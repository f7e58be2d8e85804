import Derived.Test.YtkbgmojomgelbaaWInv
import Derived.Test.YtkbgmojomgelbaaWFootNe
namespace Go.Proofs.YtkbgmojomgelbaaW.PrintWords
open Go.RowKit
end Go.Proofs.YtkbgmojomgelbaaW.PrintWords
namespace Go.Proofs.YtkbgmojomgelbaaW.PrintLast
section
variable {ops : Array Oper} {a : Act} {o og : Oper} {g : Nat} {t : Tmp} {u : Bool}
end
end Go.Proofs.YtkbgmojomgelbaaW.PrintLast
