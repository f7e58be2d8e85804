/-
  No cell of these rows narrows 'for every input' (looked for: loops, veiled, ifaces, maps, wideKeys, modest, calm, conditions, laid).
  DERIVED. THE GIVEN ROWS OF THIS SEAT. 6 by the template 'for every input the law returns true; each argument reads behind the call as it read before'; 0 by the template 'total and deterministic' (their statements: YtnmhggdaccbbfaaTotals.lean).
  GIVEN WITH THE SEED: the statements are not yours to turn. If you find one false, say at which input.
  Laid BY PROGRAM, IN A SANDBOX (cutbox-rows.mjs): the forced cells as the released guide's own fill.sh prints them over the translation 090570871ee38d72… (all of the seat's roots in one cut). By AI agents, Wed Nov 11 2026. No macro, syntax, notation, axiom, sorry.
-/
import Derived.Test.YtnmhggdaccbbfaaChecked
import GoSem.Claim
import GoSem.ClaimJoined
import GoSem.ClaimMapViews
import Derived.JoinedTies
import Derived.KernelRfl
namespace Go.Proofs.Ytnmhggdaccbbfaa
/- THE CELL 'sum', in the pinned program and in every row, IS THE sha256 OF THE DUMP (.gsa) THAT YtnmhggdaccbbfaaProg.lean LOADS. Nothing in Lean hashes anything: it is a label: what it is worth is what the hold of that sum in a sandbox is worth. -/
noncomputable def Try.pinned : Pinned := { name := "ytnmhggdaccbbfaa", sum := "090570871ee38d72be374682ca31e6cf11ffa091d25a7e0d0eb838b2bdfe48ff", checked := Try.checked }
namespace Rows
def none {H : Type} : Left H := { results := [], args := [] }

/-- 'laws.FnExprWrong': WHATEVER THE INPUT: true; the input reads as it did. -/
def fnExprWrongSpec : ChangeSpec := { name := "fnExprWrong", fn := fun _ => fun
  | [d] => { results := [.lit (.bool true)], args := [d] }
  | _ => none }
def fnExprWrongRow : OpenClaim := { program := "ytnmhggdaccbbfaa", sum := "090570871ee38d72be374682ca31e6cf11ffa091d25a7e0d0eb838b2bdfe48ff", func := "loop.example/g00243/laws.FnExprWrong", spec := "fnExprWrong", recurses := true, apart := false }
def FnExprWrongSaid : Prop := fnExprWrongRow.holds Try.pinned (OpenSpec.ofChange fnExprWrongSpec)

/-- ITS FALSE NEIGHBOUR: 'it returns false'. Refute it at one input. -/
def fnExprWrongWrong : ChangeSpec := { name := "fnExprWrong", fn := fun _ => fun
  | [d] => { results := [.lit (.bool false)], args := [d] }
  | _ => none }
def FnExprWrongWrongFalsely : Prop := fnExprWrongRow.holds Try.pinned (OpenSpec.ofChange fnExprWrongWrong)

/-- 'laws.FnExprs': WHATEVER THE INPUT: true; the input reads as it did. -/
def fnExprsSpec : ChangeSpec := { name := "fnExprs", fn := fun _ => fun
  | [d] => { results := [.lit (.bool true)], args := [d] }
  | _ => none }
def fnExprsRow : OpenClaim := { program := "ytnmhggdaccbbfaa", sum := "090570871ee38d72be374682ca31e6cf11ffa091d25a7e0d0eb838b2bdfe48ff", func := "loop.example/g00243/laws.FnExprs", spec := "fnExprs", recurses := true, apart := false }
def FnExprsSaid : Prop := fnExprsRow.holds Try.pinned (OpenSpec.ofChange fnExprsSpec)

/-- ITS FALSE NEIGHBOUR: 'it returns false'. Refute it at one input. -/
def fnExprsWrong : ChangeSpec := { name := "fnExprs", fn := fun _ => fun
  | [d] => { results := [.lit (.bool false)], args := [d] }
  | _ => none }
def FnExprsWrongFalsely : Prop := fnExprsRow.holds Try.pinned (OpenSpec.ofChange fnExprsWrong)

/-- 'laws.FnExactRuleAt': WHATEVER THE INPUT: true; the input reads as it did. -/
def fnExactRuleAtSpec : ChangeSpec := { name := "fnExactRuleAt", fn := fun _ => fun
  | [d1, d2] => { results := [.lit (.bool true)], args := [d1, d2] }
  | _ => none }
def fnExactRuleAtRow : OpenClaim := { program := "ytnmhggdaccbbfaa", sum := "090570871ee38d72be374682ca31e6cf11ffa091d25a7e0d0eb838b2bdfe48ff", func := "loop.example/g00243/laws.FnExactRuleAt", spec := "fnExactRuleAt", unfollowed := true, recurses := true, apart := false }
def FnExactRuleAtSaid : Prop := fnExactRuleAtRow.holds Try.pinned (OpenSpec.ofChange fnExactRuleAtSpec)

/-- ITS FALSE NEIGHBOUR: 'it returns false'. Refute it at one input. -/
def fnExactRuleAtWrong : ChangeSpec := { name := "fnExactRuleAt", fn := fun _ => fun
  | [d1, d2] => { results := [.lit (.bool false)], args := [d1, d2] }
  | _ => none }
def FnExactRuleAtWrongFalsely : Prop := fnExactRuleAtRow.holds Try.pinned (OpenSpec.ofChange fnExactRuleAtWrong)

/-- 'laws.FnExactEvalExpr': WHATEVER THE INPUT: true; the input reads as it did. -/
def fnExactEvalExprSpec : ChangeSpec := { name := "fnExactEvalExpr", fn := fun _ => fun
  | [d1, d2, d3] => { results := [.lit (.bool true)], args := [d1, d2, d3] }
  | _ => none }
def fnExactEvalExprRow : OpenClaim := { program := "ytnmhggdaccbbfaa", sum := "090570871ee38d72be374682ca31e6cf11ffa091d25a7e0d0eb838b2bdfe48ff", func := "loop.example/g00243/laws.FnExactEvalExpr", spec := "fnExactEvalExpr", apart := false }
def FnExactEvalExprSaid : Prop := fnExactEvalExprRow.holds Try.pinned (OpenSpec.ofChange fnExactEvalExprSpec)

/-- ITS FALSE NEIGHBOUR: 'it returns false'. Refute it at one input. -/
def fnExactEvalExprWrong : ChangeSpec := { name := "fnExactEvalExpr", fn := fun _ => fun
  | [d1, d2, d3] => { results := [.lit (.bool false)], args := [d1, d2, d3] }
  | _ => none }
def FnExactEvalExprWrongFalsely : Prop := fnExactEvalExprRow.holds Try.pinned (OpenSpec.ofChange fnExactEvalExprWrong)

/-- 'laws.FnExactFreeOf': WHATEVER THE INPUT: true; the input reads as it did. -/
def fnExactFreeOfSpec : ChangeSpec := { name := "fnExactFreeOf", fn := fun _ => fun
  | [d] => { results := [.lit (.bool true)], args := [d] }
  | _ => none }
def fnExactFreeOfRow : OpenClaim := { program := "ytnmhggdaccbbfaa", sum := "090570871ee38d72be374682ca31e6cf11ffa091d25a7e0d0eb838b2bdfe48ff", func := "loop.example/g00243/laws.FnExactFreeOf", spec := "fnExactFreeOf", recurses := true, apart := false }
def FnExactFreeOfSaid : Prop := fnExactFreeOfRow.holds Try.pinned (OpenSpec.ofChange fnExactFreeOfSpec)

/-- ITS FALSE NEIGHBOUR: 'it returns false'. Refute it at one input. -/
def fnExactFreeOfWrong : ChangeSpec := { name := "fnExactFreeOf", fn := fun _ => fun
  | [d] => { results := [.lit (.bool false)], args := [d] }
  | _ => none }
def FnExactFreeOfWrongFalsely : Prop := fnExactFreeOfRow.holds Try.pinned (OpenSpec.ofChange fnExactFreeOfWrong)

/-- 'laws.FnExprFree': WHATEVER THE INPUT: true; the input reads as it did. -/
def fnExprFreeSpec : ChangeSpec := { name := "fnExprFree", fn := fun _ => fun
  | [d] => { results := [.lit (.bool true)], args := [d] }
  | _ => none }
def fnExprFreeRow : OpenClaim := { program := "ytnmhggdaccbbfaa", sum := "090570871ee38d72be374682ca31e6cf11ffa091d25a7e0d0eb838b2bdfe48ff", func := "loop.example/g00243/laws.FnExprFree", spec := "fnExprFree", recurses := true, apart := false }
def FnExprFreeSaid : Prop := fnExprFreeRow.holds Try.pinned (OpenSpec.ofChange fnExprFreeSpec)

/-- ITS FALSE NEIGHBOUR: 'it returns false'. Refute it at one input. -/
def fnExprFreeWrong : ChangeSpec := { name := "fnExprFree", fn := fun _ => fun
  | [d] => { results := [.lit (.bool false)], args := [d] }
  | _ => none }
def FnExprFreeWrongFalsely : Prop := fnExprFreeRow.holds Try.pinned (OpenSpec.ofChange fnExprFreeWrong)

/- THE SECOND FORM. 'bulk': how many values and letters a reading holds, each counted each time it is reached (what is shared counts as often as it is met; a slice's spare places count too). A statement '..UptoSaid' is the law's where the arguments, and the package variables that the reading takes, are together of bulk at most 1048576: NARROWER than '..Said'. Prove '..Said' where nothing that the law and all that it calls make is longer than what came in: it says more and counts as full. Else prove '..UptoSaid'. A law counts once. -/
mutual
def uptoBulk {H : Type} : DataW H → Nat
  | .lit (.string bytes) => bytes.length + 1
  | .lit _ => 1
  | .nil => 1
  | .ptr d => uptoBulk d + 1
  | .slice elems spare => uptoBulkAll elems + uptoBulkAll spare + 1
  | .agg parts => uptoBulkAll parts + 1
  | .iface _ d => uptoBulk d + 1
  | .map entries => uptoBulkEntries entries + 1
  | .held _ => 1
def uptoBulkAll {H : Type} : List (DataW H) → Nat
  | [] => 0
  | d :: r => uptoBulk d + uptoBulkAll r
def uptoBulkEntries {H : Type} : List (Lit × DataW H) → Nat
  | [] => 0
  | x :: r => uptoBulkEntry x + uptoBulkEntries r
def uptoBulkEntry {H : Type} : Lit × DataW H → Nat
  | (.string bytes, d) => bytes.length + uptoBulk d + 1
  | (_, d) => uptoBulk d + 1
 end
def uptoSmall : (H : Type) → List (DataW H) → Bool := fun _ ds => decide (uptoBulkAll ds ≤ 1048576)
def OpenSpec.upto (s : _root_.Go.ChangeSpec) : _root_.Go.OpenSpec := { _root_.Go.OpenSpec.ofChange s with cond := some uptoSmall }

/-- 'laws.FnExprWrong', WHERE WHAT IT READS IS OF BULK AT MOST 1048576: true; the input reads as it did. -/
def fnExprWrongUptoRow : OpenClaim := { program := "ytnmhggdaccbbfaa", sum := "090570871ee38d72be374682ca31e6cf11ffa091d25a7e0d0eb838b2bdfe48ff", func := "loop.example/g00243/laws.FnExprWrong", spec := "fnExprWrong", recurses := true, apart := false, narrowed := true }
def FnExprWrongUptoSaid : Prop := fnExprWrongUptoRow.holds Try.pinned (OpenSpec.upto fnExprWrongSpec)

/-- 'laws.FnExprs', WHERE WHAT IT READS IS OF BULK AT MOST 1048576: true; the input reads as it did. -/
def fnExprsUptoRow : OpenClaim := { program := "ytnmhggdaccbbfaa", sum := "090570871ee38d72be374682ca31e6cf11ffa091d25a7e0d0eb838b2bdfe48ff", func := "loop.example/g00243/laws.FnExprs", spec := "fnExprs", recurses := true, apart := false, narrowed := true }
def FnExprsUptoSaid : Prop := fnExprsUptoRow.holds Try.pinned (OpenSpec.upto fnExprsSpec)

/-- 'laws.FnExactRuleAt', WHERE WHAT IT READS IS OF BULK AT MOST 1048576: true; the input reads as it did. -/
def fnExactRuleAtUptoRow : OpenClaim := { program := "ytnmhggdaccbbfaa", sum := "090570871ee38d72be374682ca31e6cf11ffa091d25a7e0d0eb838b2bdfe48ff", func := "loop.example/g00243/laws.FnExactRuleAt", spec := "fnExactRuleAt", unfollowed := true, recurses := true, apart := false, narrowed := true }
def FnExactRuleAtUptoSaid : Prop := fnExactRuleAtUptoRow.holds Try.pinned (OpenSpec.upto fnExactRuleAtSpec)

/-- 'laws.FnExactEvalExpr', WHERE WHAT IT READS IS OF BULK AT MOST 1048576: true; the input reads as it did. -/
def fnExactEvalExprUptoRow : OpenClaim := { program := "ytnmhggdaccbbfaa", sum := "090570871ee38d72be374682ca31e6cf11ffa091d25a7e0d0eb838b2bdfe48ff", func := "loop.example/g00243/laws.FnExactEvalExpr", spec := "fnExactEvalExpr", apart := false, narrowed := true }
def FnExactEvalExprUptoSaid : Prop := fnExactEvalExprUptoRow.holds Try.pinned (OpenSpec.upto fnExactEvalExprSpec)

/-- 'laws.FnExactFreeOf', WHERE WHAT IT READS IS OF BULK AT MOST 1048576: true; the input reads as it did. -/
def fnExactFreeOfUptoRow : OpenClaim := { program := "ytnmhggdaccbbfaa", sum := "090570871ee38d72be374682ca31e6cf11ffa091d25a7e0d0eb838b2bdfe48ff", func := "loop.example/g00243/laws.FnExactFreeOf", spec := "fnExactFreeOf", recurses := true, apart := false, narrowed := true }
def FnExactFreeOfUptoSaid : Prop := fnExactFreeOfUptoRow.holds Try.pinned (OpenSpec.upto fnExactFreeOfSpec)

/-- 'laws.FnExprFree', WHERE WHAT IT READS IS OF BULK AT MOST 1048576: true; the input reads as it did. -/
def fnExprFreeUptoRow : OpenClaim := { program := "ytnmhggdaccbbfaa", sum := "090570871ee38d72be374682ca31e6cf11ffa091d25a7e0d0eb838b2bdfe48ff", func := "loop.example/g00243/laws.FnExprFree", spec := "fnExprFree", recurses := true, apart := false, narrowed := true }
def FnExprFreeUptoSaid : Prop := fnExprFreeUptoRow.holds Try.pinned (OpenSpec.upto fnExprFreeSpec)

end Rows
end Go.Proofs.Ytnmhggdaccbbfaa
