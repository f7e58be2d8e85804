-- Made by this prover's wip/tools/myprint.py (the kit's print, with rules and contracts of this prover's own); Lean checks it.
import Derived.Test.YtlgdkpoaldaabaaProg
import Derived.Below
import Derived.Deep.Draws
import Derived.Deep.AppendLies
import Derived.Maps.AppendAt
import Derived.OwnWalk
import Derived.Laws.BytesArg
import Derived.Laws.MakeOwn
import Derived.Laws.OwnMore
import Derived.Deep.OwnRows
import Derived.Tactics
import Derived.Lib.ConvBytes
import Derived.Laws.Slices
import Derived.WalkKit
import Derived.KernelRfl
import Derived.RowKit3
import Derived.Deep.LoopGhost
import Derived.Deep.QuietTactic
import Derived.BigQuiet
import Derived.WideLaws
import Derived.Deep.DeepCutAuto
import Derived.Deep.CutBlock
import Derived.Deep.RegionHeld3
import Derived.Laws.Rows
import Derived.Lib.AppendStr
import Derived.ArgAppend
import Derived.Laws.IdiomCopy
import Derived.OrdersHeld
import Derived.Laws.BitsLemmas
import Derived.RowKit
import Derived.Test.YtlgdkpoaldaabaaMWords
import Derived.Test.YtlgdkpoaldaabaaMExtFnExactUnhex
import Derived.Test.YtlgdkpoaldaabaaWWords
import Derived.Test.YtlgdkpoaldaabaaWLast
import Derived.Test.YtlgdkpoaldaabaaWTab
import Derived.Test.YtlgdkpoaldaabaaWFour
import Derived.Test.YtlgdkpoaldaabaaWQPut
import Derived.Test.YtlgdkpoaldaabaaWApart
import Derived.Test.YtlgdkpoaldaabaaWArr
import Derived.Test.YtlgdkpoaldaabaaWZeros
import Derived.Test.YtlgdkpoaldaabaaWFoot
import Derived.Test.YtlgdkpoaldaabaaWKept
import Derived.Test.YtlgdkpoaldaabaaWShare
import Derived.Test.YtlgdkpoaldaabaaWN
import Derived.Test.YtlgdkpoaldaabaaWFootNe
import Derived.Test.YtlgdkpoaldaabaaWAt
import Derived.Test.YtlgdkpoaldaabaaWEqStruct
import Derived.Test.YtlgdkpoaldaabaaWRepsOne
import Derived.Test.YtlgdkpoaldaabaaWInv
import Derived.Test.YtlgdkpoaldaabaaWInvWords
import Derived.Test.YtlgdkpoaldaabaaWGuard
import Derived.Test.YtlgdkpoaldaabaaWNEv
import Derived.Test.YtlgdkpoaldaabaaWMore
namespace Go.Proofs.Ytlgdkpoaldaabaa.MFnExactUnhex
open Go.RowKit Go.Proofs.YtlgdkpoaldaabaaW.PrintWords Go.Proofs.YtlgdkpoaldaabaaW.PrintLast Go.Proofs.YtlgdkpoaldaabaaW.PrintMore
attribute [local go_sem] max2_int min2_int max_two min_two max_three min_three max_four min_four   -- for this text's walks alone
set_option linter.unusedVariables false
set_option linter.unusedSimpArgs false



def errW : Option Int → Value
  | none => .nilIface
  | some c => .iface 0 (.int .i64 c)
theorem errW_none : errW none = .nilIface := rfl
theorem errW_some (c : Int) : errW (some c) = .iface 0 (.int .i64 c) := rfl

theorem info5 : (Try.prog.info? 5).map (fun i => (i.zero, i.size, i.bytes)) = some (some (.int .u8 0), 1, 1) := by kernel_rfl
-- the values' own types

end Go.Proofs.Ytlgdkpoaldaabaa.MFnExactUnhex
