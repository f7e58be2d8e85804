-- Made by this prover's wip/tools/myprint.py (the kit's print, with rules and contracts of this prover's own); Lean checks it.
import Derived.Test.YtigibdkgimgknaaProg
import Derived.Below
import Derived.Deep.Draws
import Derived.Deep.AppendLies
import Derived.Maps.AppendAt
import Derived.OwnWalk
import Derived.Laws.BytesArg
import Derived.Laws.MakeOwn
import Derived.Laws.OwnMore
import Derived.Deep.OwnRows
import Derived.Tactics
import Derived.Lib.ConvBytes
import Derived.Laws.Slices
import Derived.WalkKit
import Derived.KernelRfl
import Derived.RowKit3
import Derived.Deep.LoopGhost
import Derived.Deep.QuietTactic
import Derived.BigQuiet
import Derived.WideLaws
import Derived.Deep.DeepCutAuto
import Derived.Deep.CutBlock
import Derived.Deep.RegionHeld3
import Derived.Laws.Rows
import Derived.Lib.AppendStr
import Derived.ArgAppend
import Derived.Laws.IdiomCopy
import Derived.OrdersHeld
import Derived.Laws.BitsLemmas
import Derived.RowKit
import Derived.Test.YtigibdkgimgknaaMWords
import Derived.Test.YtigibdkgimgknaaMBytes
import Derived.Test.YtigibdkgimgknaaWWords
import Derived.Test.YtigibdkgimgknaaWLast
import Derived.Test.YtigibdkgimgknaaWTab
import Derived.Test.YtigibdkgimgknaaWFour
import Derived.Test.YtigibdkgimgknaaWQPut
import Derived.Test.YtigibdkgimgknaaWApart
import Derived.Test.YtigibdkgimgknaaWArr
import Derived.Test.YtigibdkgimgknaaWZeros
import Derived.Test.YtigibdkgimgknaaWFoot
import Derived.Test.YtigibdkgimgknaaWKept
import Derived.Test.YtigibdkgimgknaaWShare
import Derived.Test.YtigibdkgimgknaaWN
import Derived.Test.YtigibdkgimgknaaWFootNe
import Derived.Test.YtigibdkgimgknaaWAt
import Derived.Test.YtigibdkgimgknaaWEqStruct
import Derived.Test.YtigibdkgimgknaaWRepsOne
import Derived.Test.YtigibdkgimgknaaWInv
import Derived.Test.YtigibdkgimgknaaWInvWords
import Derived.Test.YtigibdkgimgknaaWGuard
import Derived.Test.YtigibdkgimgknaaWNEv
import Derived.Test.YtigibdkgimgknaaWMore
namespace Go.Proofs.Ytigibdkgimgknaa.MFnTurned
open Go.RowKit Go.Proofs.YtigibdkgimgknaaW.PrintWords Go.Proofs.YtigibdkgimgknaaW.PrintLast Go.Proofs.YtigibdkgimgknaaW.PrintMore
attribute [local go_sem] max2_int min2_int max_two min_two max_three min_three max_four min_four   -- for this text's walks alone
set_option linter.unusedVariables false
set_option linter.unusedSimpArgs false



def errW : Option Int → Value
  | none => .nilIface
  | some c => .iface 0 (.int .i64 c)
theorem errW_none : errW none = .nilIface := rfl
theorem errW_some (c : Int) : errW (some c) = .iface 0 (.int .i64 c) := rfl

theorem info3 : (Try.prog.info? 3).map (fun i => (i.zero, i.size, i.bytes)) = some (some (.int .i64 0), 1, 8) := by kernel_rfl
theorem info5 : (Try.prog.info? 5).map (fun i => (i.zero, i.size, i.bytes)) = some (some (.int .u8 0), 1, 1) := by kernel_rfl
-- the values' own types

end Go.Proofs.Ytigibdkgimgknaa.MFnTurned
