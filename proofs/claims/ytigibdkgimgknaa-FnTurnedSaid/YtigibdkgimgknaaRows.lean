/-
  No cell of these rows narrows 'for every input' (looked for: loops, veiled, ifaces, maps, wideKeys, modest, calm, conditions, laid).
  DERIVED. THE GIVEN ROWS OF THIS SEAT. 12 by the template 'for every input the law returns true; each argument reads behind the call as it read before'; 0 by the template 'total and deterministic' (their statements: YtigibdkgimgknaaTotals.lean).
  GIVEN WITH THE SEED: the statements are not yours to turn. If you find one false, say at which input.
  Laid BY PROGRAM, IN A SANDBOX (cutbox-rows.mjs): the forced cells as the released guide's own fill.sh prints them over the translation c91f8c6fba25cf2b… (all of the seat's roots in one cut). By AI agents, Wed Nov 11 2026. No macro, syntax, notation, axiom, sorry.
-/
import Derived.Test.YtigibdkgimgknaaChecked
import GoSem.Claim
import GoSem.ClaimJoined
import GoSem.ClaimMapViews
import Derived.JoinedTies
import Derived.KernelRfl
namespace Go.Proofs.Ytigibdkgimgknaa
/- THE CELL 'sum', in the pinned program and in every row, IS THE sha256 OF THE DUMP (.gsa) THAT YtigibdkgimgknaaProg.lean LOADS. Nothing in Lean hashes anything: it is a label: what it is worth is what the hold of that sum in a sandbox is worth. -/
noncomputable def Try.pinned : Pinned := { name := "ytigibdkgimgknaa", sum := "c91f8c6fba25cf2bb93a323abf8ff3a8e6df794be45cbef90d92f31c1ef83c29", checked := Try.checked }
namespace Rows
def none {H : Type} : Left H := { results := [], args := [] }

/-- 'laws.FnExactReadShort': WHATEVER THE INPUT: true; the input reads as it did. -/
def fnExactReadShortSpec : ChangeSpec := { name := "fnExactReadShort", fn := fun _ => fun
  | [d1, d2] => { results := [.lit (.bool true)], args := [d1, d2] }
  | _ => none }
def fnExactReadShortRow : OpenClaim := { program := "ytigibdkgimgknaa", sum := "c91f8c6fba25cf2bb93a323abf8ff3a8e6df794be45cbef90d92f31c1ef83c29", func := "loop.example/g00243/laws.FnExactReadShort", spec := "fnExactReadShort", apart := false }
def FnExactReadShortSaid : Prop := fnExactReadShortRow.holds Try.pinned (OpenSpec.ofChange fnExactReadShortSpec)

/-- ITS FALSE NEIGHBOUR: 'it returns false'. Refute it at one input. -/
def fnExactReadShortWrong : ChangeSpec := { name := "fnExactReadShort", fn := fun _ => fun
  | [d1, d2] => { results := [.lit (.bool false)], args := [d1, d2] }
  | _ => none }
def FnExactReadShortWrongFalsely : Prop := fnExactReadShortRow.holds Try.pinned (OpenSpec.ofChange fnExactReadShortWrong)

/-- 'laws.FnExactUnsealed': WHATEVER THE INPUT: true; the input reads as it did. -/
def fnExactUnsealedSpec : ChangeSpec := { name := "fnExactUnsealed", fn := fun _ => fun
  | [d] => { results := [.lit (.bool true)], args := [d] }
  | _ => none }
def fnExactUnsealedRow : OpenClaim := { program := "ytigibdkgimgknaa", sum := "c91f8c6fba25cf2bb93a323abf8ff3a8e6df794be45cbef90d92f31c1ef83c29", func := "loop.example/g00243/laws.FnExactUnsealed", spec := "fnExactUnsealed", apart := false }
def FnExactUnsealedSaid : Prop := fnExactUnsealedRow.holds Try.pinned (OpenSpec.ofChange fnExactUnsealedSpec)

/-- ITS FALSE NEIGHBOUR: 'it returns false'. Refute it at one input. -/
def fnExactUnsealedWrong : ChangeSpec := { name := "fnExactUnsealed", fn := fun _ => fun
  | [d] => { results := [.lit (.bool false)], args := [d] }
  | _ => none }
def FnExactUnsealedWrongFalsely : Prop := fnExactUnsealedRow.holds Try.pinned (OpenSpec.ofChange fnExactUnsealedWrong)

/-- 'laws.FnExactEnvGet': WHATEVER THE INPUT: true; the input reads as it did. -/
def fnExactEnvGetSpec : ChangeSpec := { name := "fnExactEnvGet", fn := fun _ => fun
  | [d1, d2] => { results := [.lit (.bool true)], args := [d1, d2] }
  | _ => none }
def fnExactEnvGetRow : OpenClaim := { program := "ytigibdkgimgknaa", sum := "c91f8c6fba25cf2bb93a323abf8ff3a8e6df794be45cbef90d92f31c1ef83c29", func := "loop.example/g00243/laws.FnExactEnvGet", spec := "fnExactEnvGet", apart := false }
def FnExactEnvGetSaid : Prop := fnExactEnvGetRow.holds Try.pinned (OpenSpec.ofChange fnExactEnvGetSpec)

/-- ITS FALSE NEIGHBOUR: 'it returns false'. Refute it at one input. -/
def fnExactEnvGetWrong : ChangeSpec := { name := "fnExactEnvGet", fn := fun _ => fun
  | [d1, d2] => { results := [.lit (.bool false)], args := [d1, d2] }
  | _ => none }
def FnExactEnvGetWrongFalsely : Prop := fnExactEnvGetRow.holds Try.pinned (OpenSpec.ofChange fnExactEnvGetWrong)

/-- 'laws.FnExactEnvOk': WHATEVER THE INPUT: true; the input reads as it did. -/
def fnExactEnvOkSpec : ChangeSpec := { name := "fnExactEnvOk", fn := fun _ => fun
  | [d] => { results := [.lit (.bool true)], args := [d] }
  | _ => none }
def fnExactEnvOkRow : OpenClaim := { program := "ytigibdkgimgknaa", sum := "c91f8c6fba25cf2bb93a323abf8ff3a8e6df794be45cbef90d92f31c1ef83c29", func := "loop.example/g00243/laws.FnExactEnvOk", spec := "fnExactEnvOk", apart := false }
def FnExactEnvOkSaid : Prop := fnExactEnvOkRow.holds Try.pinned (OpenSpec.ofChange fnExactEnvOkSpec)

/-- ITS FALSE NEIGHBOUR: 'it returns false'. Refute it at one input. -/
def fnExactEnvOkWrong : ChangeSpec := { name := "fnExactEnvOk", fn := fun _ => fun
  | [d] => { results := [.lit (.bool false)], args := [d] }
  | _ => none }
def FnExactEnvOkWrongFalsely : Prop := fnExactEnvOkRow.holds Try.pinned (OpenSpec.ofChange fnExactEnvOkWrong)

/-- 'laws.FnTurned': WHATEVER THE INPUT: true; the input reads as it did. -/
def fnTurnedSpec : ChangeSpec := { name := "fnTurned", fn := fun _ => fun
  | [d] => { results := [.lit (.bool true)], args := [d] }
  | _ => none }
def fnTurnedRow : OpenClaim := { program := "ytigibdkgimgknaa", sum := "c91f8c6fba25cf2bb93a323abf8ff3a8e6df794be45cbef90d92f31c1ef83c29", func := "loop.example/g00243/laws.FnTurned", spec := "fnTurned", apart := false }
def FnTurnedSaid : Prop := fnTurnedRow.holds Try.pinned (OpenSpec.ofChange fnTurnedSpec)

/-- ITS FALSE NEIGHBOUR: 'it returns false'. Refute it at one input. -/
def fnTurnedWrong : ChangeSpec := { name := "fnTurned", fn := fun _ => fun
  | [d] => { results := [.lit (.bool false)], args := [d] }
  | _ => none }
def FnTurnedWrongFalsely : Prop := fnTurnedRow.holds Try.pinned (OpenSpec.ofChange fnTurnedWrong)

/-- 'laws.FnEnvs': WHATEVER THE INPUT: true; the input reads as it did. -/
def fnEnvsSpec : ChangeSpec := { name := "fnEnvs", fn := fun _ => fun
  | [d] => { results := [.lit (.bool true)], args := [d] }
  | _ => none }
def fnEnvsRow : OpenClaim := { program := "ytigibdkgimgknaa", sum := "c91f8c6fba25cf2bb93a323abf8ff3a8e6df794be45cbef90d92f31c1ef83c29", func := "loop.example/g00243/laws.FnEnvs", spec := "fnEnvs", apart := false }
def FnEnvsSaid : Prop := fnEnvsRow.holds Try.pinned (OpenSpec.ofChange fnEnvsSpec)

/-- ITS FALSE NEIGHBOUR: 'it returns false'. Refute it at one input. -/
def fnEnvsWrong : ChangeSpec := { name := "fnEnvs", fn := fun _ => fun
  | [d] => { results := [.lit (.bool false)], args := [d] }
  | _ => none }
def FnEnvsWrongFalsely : Prop := fnEnvsRow.holds Try.pinned (OpenSpec.ofChange fnEnvsWrong)

/-- 'laws.FnExactHeightOf': WHATEVER THE INPUT: true; the input reads as it did. -/
def fnExactHeightOfSpec : ChangeSpec := { name := "fnExactHeightOf", fn := fun _ => fun
  | [d] => { results := [.lit (.bool true)], args := [d] }
  | _ => none }
def fnExactHeightOfRow : OpenClaim := { program := "ytigibdkgimgknaa", sum := "c91f8c6fba25cf2bb93a323abf8ff3a8e6df794be45cbef90d92f31c1ef83c29", func := "loop.example/g00243/laws.FnExactHeightOf", spec := "fnExactHeightOf", apart := false }
def FnExactHeightOfSaid : Prop := fnExactHeightOfRow.holds Try.pinned (OpenSpec.ofChange fnExactHeightOfSpec)

/-- ITS FALSE NEIGHBOUR: 'it returns false'. Refute it at one input. -/
def fnExactHeightOfWrong : ChangeSpec := { name := "fnExactHeightOf", fn := fun _ => fun
  | [d] => { results := [.lit (.bool false)], args := [d] }
  | _ => none }
def FnExactHeightOfWrongFalsely : Prop := fnExactHeightOfRow.holds Try.pinned (OpenSpec.ofChange fnExactHeightOfWrong)

/-- 'laws.FnExactEnvOnly': WHATEVER THE INPUT: true; the input reads as it did. -/
def fnExactEnvOnlySpec : ChangeSpec := { name := "fnExactEnvOnly", fn := fun _ => fun
  | [d1, d2] => { results := [.lit (.bool true)], args := [d1, d2] }
  | _ => none }
def fnExactEnvOnlyRow : OpenClaim := { program := "ytigibdkgimgknaa", sum := "c91f8c6fba25cf2bb93a323abf8ff3a8e6df794be45cbef90d92f31c1ef83c29", func := "loop.example/g00243/laws.FnExactEnvOnly", spec := "fnExactEnvOnly", unfollowed := true, recurses := true, apart := false }
def FnExactEnvOnlySaid : Prop := fnExactEnvOnlyRow.holds Try.pinned (OpenSpec.ofChange fnExactEnvOnlySpec)

/-- ITS FALSE NEIGHBOUR: 'it returns false'. Refute it at one input. -/
def fnExactEnvOnlyWrong : ChangeSpec := { name := "fnExactEnvOnly", fn := fun _ => fun
  | [d1, d2] => { results := [.lit (.bool false)], args := [d1, d2] }
  | _ => none }
def FnExactEnvOnlyWrongFalsely : Prop := fnExactEnvOnlyRow.holds Try.pinned (OpenSpec.ofChange fnExactEnvOnlyWrong)

/-- 'laws.FnExactEnvSet': WHATEVER THE INPUT: true; the input reads as it did. -/
def fnExactEnvSetSpec : ChangeSpec := { name := "fnExactEnvSet", fn := fun _ => fun
  | [d1, d2, d3] => { results := [.lit (.bool true)], args := [d1, d2, d3] }
  | _ => none }
def fnExactEnvSetRow : OpenClaim := { program := "ytigibdkgimgknaa", sum := "c91f8c6fba25cf2bb93a323abf8ff3a8e6df794be45cbef90d92f31c1ef83c29", func := "loop.example/g00243/laws.FnExactEnvSet", spec := "fnExactEnvSet", apart := false }
def FnExactEnvSetSaid : Prop := fnExactEnvSetRow.holds Try.pinned (OpenSpec.ofChange fnExactEnvSetSpec)

/-- ITS FALSE NEIGHBOUR: 'it returns false'. Refute it at one input. -/
def fnExactEnvSetWrong : ChangeSpec := { name := "fnExactEnvSet", fn := fun _ => fun
  | [d1, d2, d3] => { results := [.lit (.bool false)], args := [d1, d2, d3] }
  | _ => none }
def FnExactEnvSetWrongFalsely : Prop := fnExactEnvSetRow.holds Try.pinned (OpenSpec.ofChange fnExactEnvSetWrong)

/-- 'laws.FnExactExprOk': WHATEVER THE INPUT: true; the input reads as it did. -/
def fnExactExprOkSpec : ChangeSpec := { name := "fnExactExprOk", fn := fun _ => fun
  | [d] => { results := [.lit (.bool true)], args := [d] }
  | _ => none }
def fnExactExprOkRow : OpenClaim := { program := "ytigibdkgimgknaa", sum := "c91f8c6fba25cf2bb93a323abf8ff3a8e6df794be45cbef90d92f31c1ef83c29", func := "loop.example/g00243/laws.FnExactExprOk", spec := "fnExactExprOk", apart := false }
def FnExactExprOkSaid : Prop := fnExactExprOkRow.holds Try.pinned (OpenSpec.ofChange fnExactExprOkSpec)

/-- ITS FALSE NEIGHBOUR: 'it returns false'. Refute it at one input. -/
def fnExactExprOkWrong : ChangeSpec := { name := "fnExactExprOk", fn := fun _ => fun
  | [d] => { results := [.lit (.bool false)], args := [d] }
  | _ => none }
def FnExactExprOkWrongFalsely : Prop := fnExactExprOkRow.holds Try.pinned (OpenSpec.ofChange fnExactExprOkWrong)

/-- 'laws.FnEnvsTold': WHATEVER THE INPUT: true; the input reads as it did. -/
def fnEnvsToldSpec : ChangeSpec := { name := "fnEnvsTold", fn := fun _ => fun
  | [d] => { results := [.lit (.bool true)], args := [d] }
  | _ => none }
def fnEnvsToldRow : OpenClaim := { program := "ytigibdkgimgknaa", sum := "c91f8c6fba25cf2bb93a323abf8ff3a8e6df794be45cbef90d92f31c1ef83c29", func := "loop.example/g00243/laws.FnEnvsTold", spec := "fnEnvsTold", apart := false }
def FnEnvsToldSaid : Prop := fnEnvsToldRow.holds Try.pinned (OpenSpec.ofChange fnEnvsToldSpec)

/-- ITS FALSE NEIGHBOUR: 'it returns false'. Refute it at one input. -/
def fnEnvsToldWrong : ChangeSpec := { name := "fnEnvsTold", fn := fun _ => fun
  | [d] => { results := [.lit (.bool false)], args := [d] }
  | _ => none }
def FnEnvsToldWrongFalsely : Prop := fnEnvsToldRow.holds Try.pinned (OpenSpec.ofChange fnEnvsToldWrong)

/-- 'laws.FnEnvOnly': WHATEVER THE INPUT: true; the input reads as it did. -/
def fnEnvOnlySpec : ChangeSpec := { name := "fnEnvOnly", fn := fun _ => fun
  | [d] => { results := [.lit (.bool true)], args := [d] }
  | _ => none }
def fnEnvOnlyRow : OpenClaim := { program := "ytigibdkgimgknaa", sum := "c91f8c6fba25cf2bb93a323abf8ff3a8e6df794be45cbef90d92f31c1ef83c29", func := "loop.example/g00243/laws.FnEnvOnly", spec := "fnEnvOnly", unfollowed := true, recurses := true, apart := false }
def FnEnvOnlySaid : Prop := fnEnvOnlyRow.holds Try.pinned (OpenSpec.ofChange fnEnvOnlySpec)

/-- ITS FALSE NEIGHBOUR: 'it returns false'. Refute it at one input. -/
def fnEnvOnlyWrong : ChangeSpec := { name := "fnEnvOnly", fn := fun _ => fun
  | [d] => { results := [.lit (.bool false)], args := [d] }
  | _ => none }
def FnEnvOnlyWrongFalsely : Prop := fnEnvOnlyRow.holds Try.pinned (OpenSpec.ofChange fnEnvOnlyWrong)

/- THE SECOND FORM. 'bulk': how many values and letters a reading holds, each counted each time it is reached (what is shared counts as often as it is met; a slice's spare places count too). A statement '..UptoSaid' is the law's where the arguments, and the package variables that the reading takes, are together of bulk at most 1048576: NARROWER than '..Said'. Prove '..Said' where nothing that the law and all that it calls make is longer than what came in: it says more and counts as full. Else prove '..UptoSaid'. A law counts once. -/
mutual
def uptoBulk {H : Type} : DataW H → Nat
  | .lit (.string bytes) => bytes.length + 1
  | .lit _ => 1
  | .nil => 1
  | .ptr d => uptoBulk d + 1
  | .slice elems spare => uptoBulkAll elems + uptoBulkAll spare + 1
  | .agg parts => uptoBulkAll parts + 1
  | .iface _ d => uptoBulk d + 1
  | .map entries => uptoBulkEntries entries + 1
  | .held _ => 1
def uptoBulkAll {H : Type} : List (DataW H) → Nat
  | [] => 0
  | d :: r => uptoBulk d + uptoBulkAll r
def uptoBulkEntries {H : Type} : List (Lit × DataW H) → Nat
  | [] => 0
  | x :: r => uptoBulkEntry x + uptoBulkEntries r
def uptoBulkEntry {H : Type} : Lit × DataW H → Nat
  | (.string bytes, d) => bytes.length + uptoBulk d + 1
  | (_, d) => uptoBulk d + 1
 end
def uptoSmall : (H : Type) → List (DataW H) → Bool := fun _ ds => decide (uptoBulkAll ds ≤ 1048576)
def OpenSpec.upto (s : _root_.Go.ChangeSpec) : _root_.Go.OpenSpec := { _root_.Go.OpenSpec.ofChange s with cond := some uptoSmall }

/-- 'laws.FnExactReadShort', WHERE WHAT IT READS IS OF BULK AT MOST 1048576: true; the input reads as it did. -/
def fnExactReadShortUptoRow : OpenClaim := { program := "ytigibdkgimgknaa", sum := "c91f8c6fba25cf2bb93a323abf8ff3a8e6df794be45cbef90d92f31c1ef83c29", func := "loop.example/g00243/laws.FnExactReadShort", spec := "fnExactReadShort", apart := false, narrowed := true }
def FnExactReadShortUptoSaid : Prop := fnExactReadShortUptoRow.holds Try.pinned (OpenSpec.upto fnExactReadShortSpec)

/-- 'laws.FnExactUnsealed', WHERE WHAT IT READS IS OF BULK AT MOST 1048576: true; the input reads as it did. -/
def fnExactUnsealedUptoRow : OpenClaim := { program := "ytigibdkgimgknaa", sum := "c91f8c6fba25cf2bb93a323abf8ff3a8e6df794be45cbef90d92f31c1ef83c29", func := "loop.example/g00243/laws.FnExactUnsealed", spec := "fnExactUnsealed", apart := false, narrowed := true }
def FnExactUnsealedUptoSaid : Prop := fnExactUnsealedUptoRow.holds Try.pinned (OpenSpec.upto fnExactUnsealedSpec)

/-- 'laws.FnExactEnvGet', WHERE WHAT IT READS IS OF BULK AT MOST 1048576: true; the input reads as it did. -/
def fnExactEnvGetUptoRow : OpenClaim := { program := "ytigibdkgimgknaa", sum := "c91f8c6fba25cf2bb93a323abf8ff3a8e6df794be45cbef90d92f31c1ef83c29", func := "loop.example/g00243/laws.FnExactEnvGet", spec := "fnExactEnvGet", apart := false, narrowed := true }
def FnExactEnvGetUptoSaid : Prop := fnExactEnvGetUptoRow.holds Try.pinned (OpenSpec.upto fnExactEnvGetSpec)

/-- 'laws.FnExactEnvOk', WHERE WHAT IT READS IS OF BULK AT MOST 1048576: true; the input reads as it did. -/
def fnExactEnvOkUptoRow : OpenClaim := { program := "ytigibdkgimgknaa", sum := "c91f8c6fba25cf2bb93a323abf8ff3a8e6df794be45cbef90d92f31c1ef83c29", func := "loop.example/g00243/laws.FnExactEnvOk", spec := "fnExactEnvOk", apart := false, narrowed := true }
def FnExactEnvOkUptoSaid : Prop := fnExactEnvOkUptoRow.holds Try.pinned (OpenSpec.upto fnExactEnvOkSpec)

/-- 'laws.FnTurned', WHERE WHAT IT READS IS OF BULK AT MOST 1048576: true; the input reads as it did. -/
def fnTurnedUptoRow : OpenClaim := { program := "ytigibdkgimgknaa", sum := "c91f8c6fba25cf2bb93a323abf8ff3a8e6df794be45cbef90d92f31c1ef83c29", func := "loop.example/g00243/laws.FnTurned", spec := "fnTurned", apart := false, narrowed := true }
def FnTurnedUptoSaid : Prop := fnTurnedUptoRow.holds Try.pinned (OpenSpec.upto fnTurnedSpec)

/-- 'laws.FnEnvs', WHERE WHAT IT READS IS OF BULK AT MOST 1048576: true; the input reads as it did. -/
def fnEnvsUptoRow : OpenClaim := { program := "ytigibdkgimgknaa", sum := "c91f8c6fba25cf2bb93a323abf8ff3a8e6df794be45cbef90d92f31c1ef83c29", func := "loop.example/g00243/laws.FnEnvs", spec := "fnEnvs", apart := false, narrowed := true }
def FnEnvsUptoSaid : Prop := fnEnvsUptoRow.holds Try.pinned (OpenSpec.upto fnEnvsSpec)

/-- 'laws.FnExactHeightOf', WHERE WHAT IT READS IS OF BULK AT MOST 1048576: true; the input reads as it did. -/
def fnExactHeightOfUptoRow : OpenClaim := { program := "ytigibdkgimgknaa", sum := "c91f8c6fba25cf2bb93a323abf8ff3a8e6df794be45cbef90d92f31c1ef83c29", func := "loop.example/g00243/laws.FnExactHeightOf", spec := "fnExactHeightOf", apart := false, narrowed := true }
def FnExactHeightOfUptoSaid : Prop := fnExactHeightOfUptoRow.holds Try.pinned (OpenSpec.upto fnExactHeightOfSpec)

/-- 'laws.FnExactEnvOnly', WHERE WHAT IT READS IS OF BULK AT MOST 1048576: true; the input reads as it did. -/
def fnExactEnvOnlyUptoRow : OpenClaim := { program := "ytigibdkgimgknaa", sum := "c91f8c6fba25cf2bb93a323abf8ff3a8e6df794be45cbef90d92f31c1ef83c29", func := "loop.example/g00243/laws.FnExactEnvOnly", spec := "fnExactEnvOnly", unfollowed := true, recurses := true, apart := false, narrowed := true }
def FnExactEnvOnlyUptoSaid : Prop := fnExactEnvOnlyUptoRow.holds Try.pinned (OpenSpec.upto fnExactEnvOnlySpec)

/-- 'laws.FnExactEnvSet', WHERE WHAT IT READS IS OF BULK AT MOST 1048576: true; the input reads as it did. -/
def fnExactEnvSetUptoRow : OpenClaim := { program := "ytigibdkgimgknaa", sum := "c91f8c6fba25cf2bb93a323abf8ff3a8e6df794be45cbef90d92f31c1ef83c29", func := "loop.example/g00243/laws.FnExactEnvSet", spec := "fnExactEnvSet", apart := false, narrowed := true }
def FnExactEnvSetUptoSaid : Prop := fnExactEnvSetUptoRow.holds Try.pinned (OpenSpec.upto fnExactEnvSetSpec)

/-- 'laws.FnExactExprOk', WHERE WHAT IT READS IS OF BULK AT MOST 1048576: true; the input reads as it did. -/
def fnExactExprOkUptoRow : OpenClaim := { program := "ytigibdkgimgknaa", sum := "c91f8c6fba25cf2bb93a323abf8ff3a8e6df794be45cbef90d92f31c1ef83c29", func := "loop.example/g00243/laws.FnExactExprOk", spec := "fnExactExprOk", apart := false, narrowed := true }
def FnExactExprOkUptoSaid : Prop := fnExactExprOkUptoRow.holds Try.pinned (OpenSpec.upto fnExactExprOkSpec)

/-- 'laws.FnEnvsTold', WHERE WHAT IT READS IS OF BULK AT MOST 1048576: true; the input reads as it did. -/
def fnEnvsToldUptoRow : OpenClaim := { program := "ytigibdkgimgknaa", sum := "c91f8c6fba25cf2bb93a323abf8ff3a8e6df794be45cbef90d92f31c1ef83c29", func := "loop.example/g00243/laws.FnEnvsTold", spec := "fnEnvsTold", apart := false, narrowed := true }
def FnEnvsToldUptoSaid : Prop := fnEnvsToldUptoRow.holds Try.pinned (OpenSpec.upto fnEnvsToldSpec)

/-- 'laws.FnEnvOnly', WHERE WHAT IT READS IS OF BULK AT MOST 1048576: true; the input reads as it did. -/
def fnEnvOnlyUptoRow : OpenClaim := { program := "ytigibdkgimgknaa", sum := "c91f8c6fba25cf2bb93a323abf8ff3a8e6df794be45cbef90d92f31c1ef83c29", func := "loop.example/g00243/laws.FnEnvOnly", spec := "fnEnvOnly", unfollowed := true, recurses := true, apart := false, narrowed := true }
def FnEnvOnlyUptoSaid : Prop := fnEnvOnlyUptoRow.holds Try.pinned (OpenSpec.upto fnEnvOnlySpec)

end Rows
end Go.Proofs.Ytigibdkgimgknaa
