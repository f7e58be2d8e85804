-- Made by this prover's wip/tools/myprint.py (the kit's print, with rules and contracts of this prover's own); Lean checks it.
import Derived.Test.YtnmhggdaccbbfaaDoorProg
import Derived.Below
import Derived.Deep.Draws
import Derived.Deep.AppendLies
import Derived.Maps.AppendAt
import Derived.OwnWalk
import Derived.Laws.BytesArg
import Derived.Laws.MakeOwn
import Derived.Laws.OwnMore
import Derived.Deep.OwnRows
import Derived.Tactics
import Derived.Lib.ConvBytes
import Derived.Laws.Slices
import Derived.WalkKit
import Derived.KernelRfl
import Derived.RowKit3
import Derived.Deep.LoopGhost
import Derived.Deep.QuietTactic
import Derived.BigQuiet
import Derived.WideLaws
import Derived.Deep.DeepCutAuto
import Derived.Deep.CutBlock
import Derived.Deep.RegionHeld3
import Derived.Laws.Rows
import Derived.Lib.AppendStr
import Derived.ArgAppend
import Derived.Laws.IdiomCopy
import Derived.OrdersHeld
import Derived.Laws.BitsLemmas
import Derived.RowKit
import Derived.Test.YtnmhggdaccbbfaaDoorMWords
import Derived.Test.YtnmhggdaccbbfaaDoorMExtFnExactPartsOf
import Derived.Test.YtnmhggdaccbbfaaDoorMSplit
import Derived.Test.YtnmhggdaccbbfaaDoorWWords
import Derived.Test.YtnmhggdaccbbfaaDoorWLast
import Derived.Test.YtnmhggdaccbbfaaDoorWTab
import Derived.Test.YtnmhggdaccbbfaaDoorWFour
import Derived.Test.YtnmhggdaccbbfaaDoorWQPut
import Derived.Test.YtnmhggdaccbbfaaDoorWApart
import Derived.Test.YtnmhggdaccbbfaaDoorWArr
import Derived.Test.YtnmhggdaccbbfaaDoorWZeros
import Derived.Test.YtnmhggdaccbbfaaDoorWFoot
import Derived.Test.YtnmhggdaccbbfaaDoorWKept
import Derived.Test.YtnmhggdaccbbfaaDoorWShare
import Derived.Test.YtnmhggdaccbbfaaDoorWN
import Derived.Test.YtnmhggdaccbbfaaDoorWFootNe
import Derived.Test.YtnmhggdaccbbfaaDoorWAt
import Derived.Test.YtnmhggdaccbbfaaDoorWEqStruct
import Derived.Test.YtnmhggdaccbbfaaDoorWRepsOne
import Derived.Test.YtnmhggdaccbbfaaDoorWInv
import Derived.Test.YtnmhggdaccbbfaaDoorWInvWords
import Derived.Test.YtnmhggdaccbbfaaDoorWGuard
import Derived.Test.YtnmhggdaccbbfaaDoorWNEv
import Derived.Test.YtnmhggdaccbbfaaDoorWMore
namespace Go.Proofs.YtnmhggdaccbbfaaDoor.MFnExactPartsOf
open Go.RowKit Go.Proofs.YtnmhggdaccbbfaaDoorW.PrintWords Go.Proofs.YtnmhggdaccbbfaaDoorW.PrintLast Go.Proofs.YtnmhggdaccbbfaaDoorW.PrintMore
attribute [local go_sem] max2_int min2_int max_two min_two max_three min_three max_four min_four   -- for this text's walks alone
set_option linter.unusedVariables false
set_option linter.unusedSimpArgs false



def errW : Option Int → Value
  | none => .nilIface
  | some c => .iface 0 (.int .i64 c)
theorem errW_none : errW none = .nilIface := rfl
theorem errW_some (c : Int) : errW (some c) = .iface 0 (.int .i64 c) := rfl

theorem info5 : (Tryd.prog.info? 5).map (fun i => (i.zero, i.size, i.bytes)) = some (some (.int .u8 0), 1, 1) := by kernel_rfl
theorem info9 : (Tryd.prog.info? 9).map (fun i => (i.zero, i.size, i.bytes)) = some (some (.string ⟨#[]⟩), 1, 16) := by kernel_rfl
-- the values' own types

end Go.Proofs.YtnmhggdaccbbfaaDoor.MFnExactPartsOf
