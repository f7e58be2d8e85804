-- Made by this prover's wip/tools/myprint.py (the kit's print, with rules and contracts of this prover's own); Lean checks it.
import Derived.Test.YtkbgmojomgelbaaDoorProg
import Derived.Below
import Derived.Deep.Draws
import Derived.Deep.AppendLies
import Derived.Maps.AppendAt
import Derived.OwnWalk
import Derived.Laws.BytesArg
import Derived.Laws.MakeOwn
import Derived.Laws.OwnMore
import Derived.Deep.OwnRows
import Derived.Tactics
import Derived.Lib.ConvBytes
import Derived.Laws.Slices
import Derived.WalkKit
import Derived.KernelRfl
import Derived.RowKit3
import Derived.Deep.LoopGhost
import Derived.Deep.QuietTactic
import Derived.BigQuiet
import Derived.WideLaws
import Derived.Deep.DeepCutAuto
import Derived.Deep.CutBlock
import Derived.Deep.RegionHeld3
import Derived.Laws.Rows
import Derived.Lib.AppendStr
import Derived.ArgAppend
import Derived.Laws.IdiomCopy
import Derived.OrdersHeld
import Derived.Laws.BitsLemmas
import Derived.RowKit
import Derived.Test.YtkbgmojomgelbaaDoorMWords
import Derived.Test.YtkbgmojomgelbaaDoorMExtFnNumbers
import Derived.Test.YtkbgmojomgelbaaDoorWWords
import Derived.Test.YtkbgmojomgelbaaDoorWLast
import Derived.Test.YtkbgmojomgelbaaDoorWTab
import Derived.Test.YtkbgmojomgelbaaDoorWFour
import Derived.Test.YtkbgmojomgelbaaDoorWQPut
import Derived.Test.YtkbgmojomgelbaaDoorWApart
import Derived.Test.YtkbgmojomgelbaaDoorWArr
import Derived.Test.YtkbgmojomgelbaaDoorWZeros
import Derived.Test.YtkbgmojomgelbaaDoorWFoot
import Derived.Test.YtkbgmojomgelbaaDoorWKept
import Derived.Test.YtkbgmojomgelbaaDoorWShare
import Derived.Test.YtkbgmojomgelbaaDoorWN
import Derived.Test.YtkbgmojomgelbaaDoorWFootNe
import Derived.Test.YtkbgmojomgelbaaDoorWAt
import Derived.Test.YtkbgmojomgelbaaDoorWEqStruct
import Derived.Test.YtkbgmojomgelbaaDoorWRepsOne
import Derived.Test.YtkbgmojomgelbaaDoorWInv
import Derived.Test.YtkbgmojomgelbaaDoorWInvWords
import Derived.Test.YtkbgmojomgelbaaDoorWGuard
import Derived.Test.YtkbgmojomgelbaaDoorWNEv
import Derived.Test.YtkbgmojomgelbaaDoorWMore
namespace Go.Proofs.YtkbgmojomgelbaaDoor.MFnNumbers
open Go.RowKit Go.Proofs.YtkbgmojomgelbaaDoorW.PrintWords Go.Proofs.YtkbgmojomgelbaaDoorW.PrintLast Go.Proofs.YtkbgmojomgelbaaDoorW.PrintMore
attribute [local go_sem] max2_int min2_int max_two min_two max_three min_three max_four min_four   -- for this text's walks alone
set_option linter.unusedVariables false
set_option linter.unusedSimpArgs false



def errW : Option Int → Value
  | none => .nilIface
  | some c => .iface 0 (.int .i64 c)
theorem errW_none : errW none = .nilIface := rfl
theorem errW_some (c : Int) : errW (some c) = .iface 0 (.int .i64 c) := rfl

theorem info3 : (Tryd.prog.info? 3).map (fun i => (i.zero, i.size, i.bytes)) = some (some (.int .i64 0), 1, 8) := by kernel_rfl
theorem info5 : (Tryd.prog.info? 5).map (fun i => (i.zero, i.size, i.bytes)) = some (some (.int .u8 0), 1, 1) := by kernel_rfl
-- the values' own types

end Go.Proofs.YtkbgmojomgelbaaDoor.MFnNumbers
