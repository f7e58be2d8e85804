import Derived.Test.YtbkncnlehlldeaaProg
import Derived.Below
import Derived.Deep.Draws
import Derived.Deep.AppendLies
import Derived.Maps.AppendAt
import Derived.OwnWalk
import Derived.Laws.BytesArg
import Derived.Laws.MakeOwn
import Derived.Laws.OwnMore
import Derived.Deep.OwnRows
import Derived.Tactics
import Derived.Lib.ConvBytes
import Derived.Laws.Slices
import Derived.WalkKit
import Derived.KernelRfl
import Derived.RowKit3
import Derived.Deep.LoopGhost
import Derived.Deep.QuietTactic
import Derived.BigQuiet
import Derived.WideLaws
import Derived.Deep.DeepCutAuto
import Derived.Deep.CutBlock
import Derived.Deep.RegionHeld3
import Derived.Laws.Rows
import Derived.Lib.AppendStr
import Derived.ArgAppend
import Derived.Laws.IdiomCopy
import Derived.OrdersHeld
import Derived.Laws.BitsLemmas
import Derived.RowKit
import Derived.Test.YtbkncnlehlldeaaMWords
import Derived.Test.YtbkncnlehlldeaaMExtFnSetsMet
import Derived.Test.YtbkncnlehlldeaaMSrt15
import Derived.Test.YtbkncnlehlldeaaMSrt16
import Derived.Test.YtbkncnlehlldeaaMSrt17
import Derived.Test.YtbkncnlehlldeaaWWords
import Derived.Test.YtbkncnlehlldeaaWLast
import Derived.Test.YtbkncnlehlldeaaWTab
import Derived.Test.YtbkncnlehlldeaaWFour
import Derived.Test.YtbkncnlehlldeaaWQPut
import Derived.Test.YtbkncnlehlldeaaWApart
import Derived.Test.YtbkncnlehlldeaaWArr
import Derived.Test.YtbkncnlehlldeaaWZeros
import Derived.Test.YtbkncnlehlldeaaWFoot
import Derived.Test.YtbkncnlehlldeaaWKept
import Derived.Test.YtbkncnlehlldeaaWShare
import Derived.Test.YtbkncnlehlldeaaWN
import Derived.Test.YtbkncnlehlldeaaWFootNe
import Derived.Test.YtbkncnlehlldeaaWAt
import Derived.Test.YtbkncnlehlldeaaWEqStruct
import Derived.Test.YtbkncnlehlldeaaWRepsOne
import Derived.Test.YtbkncnlehlldeaaWInv
import Derived.Test.YtbkncnlehlldeaaWInvWords
import Derived.Test.YtbkncnlehlldeaaWGuard
import Derived.Test.YtbkncnlehlldeaaWNEv
import Derived.Test.YtbkncnlehlldeaaWMore
namespace Go.Proofs.Ytbkncnlehlldeaa.MFnSetsMet
open Go.RowKit Go.Proofs.YtbkncnlehlldeaaW.PrintWords Go.Proofs.YtbkncnlehlldeaaW.PrintLast Go.Proofs.YtbkncnlehlldeaaW.PrintMore
attribute [local go_sem] max2_int min2_int max_two min_two max_three min_three max_four min_four
set_option linter.unusedVariables false
set_option linter.unusedSimpArgs false



def errW : Option Int → Value
 |none => .nilIface
 |some c => .iface 0 (.int .i64 c)
theorem errW_none : errW none = .nilIface:=rfl
theorem errW_some (c : Int) : errW (some c) = .iface 0 (.int .i64 c):=rfl

theorem info4 : (Try.prog.info? 4).map (fun i => (i.zero,i.size,i.bytes)) = some (some (.bool false),1,1):=by kernel_rfl
theorem info5 : (Try.prog.info? 5).map (fun i => (i.zero,i.size,i.bytes)) = some (some (.int .u8 0),1,1):=by kernel_rfl
theorem info9 : (Try.prog.info? 9).map (fun i => (i.zero,i.size,i.bytes)) = some (some (.string ⟨#[]⟩),1,16):=by kernel_rfl

theorem zq_ {p : Prop} (h : p := by (try simp only [List.map_toArray, List.map_cons, List.map_nil]); first | done | rfl | (simp only [List.length_drop, List.length_take]; rfl)) : p := h
theorem zB_ {p : Prop} (h : p := by repeat (first | (with_reducible first | exact HB.out | apply below_alloc | apply pw_below_drewN | apply below_drew1) | exact HB.out)) : p := h
theorem zV_ {p : Prop} (h : p := by first | rfl | (exact congrArg Value.bool (isEmpty_ne _)) | (exact congrArg Value.bool (isEmpty_ne' _)) | (exact congrArg Value.bool (isEmpty_eq _)) | (simp; done) | (simp [*]; done)) : p := h
theorem zE_ {p : Prop} (h : p := by first | rfl | (simp [errW_none, errW_some] <;> rfl) | (simp [*, errW_none, errW_some] <;> rfl)) : p := h
theorem zC_ {p : Prop} (h : p := by repeat (first | exact HR0.out | (with_reducible refine Kd.C_alloc ?_ _) | (with_reducible refine Kd.C_drewN ?_ _) | (with_reducible refine Kd.C_drew ?_))) : p := h
theorem zD_ {p : Prop} (h : p := by repeat (first | exact (Kd.C_below HR0.out HB.out) | (with_reducible refine Kd.C_alloc ?_ _) | (with_reducible refine Kd.C_drewN ?_ _) | (with_reducible refine Kd.C_drew ?_))) : p := h
theorem zo_ {p : Prop} [Decidable p] (h : decide p = true := by first | (with_reducible assumption) | assumption) : p := of_decide_eq_true h
abbrev zm_ := @Aside0.mk
abbrev zn_ := @pw_below_drewN
abbrev zd_ := @below_drew1
abbrev za_ := @below_alloc
abbrev zs_ := @below_set
abbrev zb_ := @World.block_lt_of_cell?
abbrev zw_ := @World.drewN_drewN
abbrev zk_ := @blk_alloc
abbrev zl_ := @blk_drewN
abbrev zf_ := @blk_frozen
abbrev zc_ := @blk_cell
abbrev zr_ := @blk_drew
end Go.Proofs.Ytbkncnlehlldeaa.MFnSetsMet
