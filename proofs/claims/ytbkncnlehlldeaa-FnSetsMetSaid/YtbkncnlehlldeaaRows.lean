/-
  No cell of these rows narrows 'for every input' (looked for: loops, veiled, ifaces, maps, wideKeys, modest, calm, conditions, laid).
  DERIVED. THE GIVEN ROWS OF THIS SEAT. 10 by the template 'for every input the law returns true; each argument reads behind the call as it read before'; 0 by the template 'total and deterministic' (their statements: YtbkncnlehlldeaaTotals.lean).
  GIVEN WITH THE SEED: the statements are not yours to turn. If you find one false, say at which input.
  Laid BY PROGRAM, IN A SANDBOX (cutbox-rows.mjs): the forced cells as the released guide's own fill.sh prints them over the translation 8a95f61ad33af14c… (all of the seat's roots in one cut). By AI agents, Wed Nov 11 2026. No macro, syntax, notation, axiom, sorry.
-/
import Derived.Test.YtbkncnlehlldeaaChecked
import GoSem.Claim
import GoSem.ClaimJoined
import GoSem.ClaimMapViews
import Derived.JoinedTies
import Derived.KernelRfl
namespace Go.Proofs.Ytbkncnlehlldeaa
/- THE CELL 'sum', in the pinned program and in every row, IS THE sha256 OF THE DUMP (.gsa) THAT YtbkncnlehlldeaaProg.lean LOADS. Nothing in Lean hashes anything: it is a label: what it is worth is what the hold of that sum in a sandbox is worth. -/
noncomputable def Try.pinned : Pinned := { name := "ytbkncnlehlldeaa", sum := "8a95f61ad33af14c6a01f2e79b41fb57cb43980427690b0de36b7bcf4f3fe574", checked := Try.checked }
namespace Rows
def none {H : Type} : Left H := { results := [], args := [] }

/-- 'laws.FnExactSetOk': WHATEVER THE INPUT: true; the input reads as it did. -/
def fnExactSetOkSpec : ChangeSpec := { name := "fnExactSetOk", fn := fun _ => fun
  | [d] => { results := [.lit (.bool true)], args := [d] }
  | _ => none }
def fnExactSetOkRow : OpenClaim := { program := "ytbkncnlehlldeaa", sum := "8a95f61ad33af14c6a01f2e79b41fb57cb43980427690b0de36b7bcf4f3fe574", func := "loop.example/g00243/laws.FnExactSetOk", spec := "fnExactSetOk", recurses := true, apart := false }
def FnExactSetOkSaid : Prop := fnExactSetOkRow.holds Try.pinned (OpenSpec.ofChange fnExactSetOkSpec)

/-- ITS FALSE NEIGHBOUR: 'it returns false'. Refute it at one input. -/
def fnExactSetOkWrong : ChangeSpec := { name := "fnExactSetOk", fn := fun _ => fun
  | [d] => { results := [.lit (.bool false)], args := [d] }
  | _ => none }
def FnExactSetOkWrongFalsely : Prop := fnExactSetOkRow.holds Try.pinned (OpenSpec.ofChange fnExactSetOkWrong)

/-- 'laws.FnExactInSet': WHATEVER THE INPUT: true; the input reads as it did. -/
def fnExactInSetSpec : ChangeSpec := { name := "fnExactInSet", fn := fun _ => fun
  | [d1, d2] => { results := [.lit (.bool true)], args := [d1, d2] }
  | _ => none }
def fnExactInSetRow : OpenClaim := { program := "ytbkncnlehlldeaa", sum := "8a95f61ad33af14c6a01f2e79b41fb57cb43980427690b0de36b7bcf4f3fe574", func := "loop.example/g00243/laws.FnExactInSet", spec := "fnExactInSet", inPlace := ["internal/bytealg.IndexByteString"], recurses := true, apart := false }
def FnExactInSetSaid : Prop := fnExactInSetRow.holds Try.pinned (OpenSpec.ofChange fnExactInSetSpec)

/-- ITS FALSE NEIGHBOUR: 'it returns false'. Refute it at one input. -/
def fnExactInSetWrong : ChangeSpec := { name := "fnExactInSet", fn := fun _ => fun
  | [d1, d2] => { results := [.lit (.bool false)], args := [d1, d2] }
  | _ => none }
def FnExactInSetWrongFalsely : Prop := fnExactInSetRow.holds Try.pinned (OpenSpec.ofChange fnExactInSetWrong)

/-- 'laws.FnExactSetBytes': WHATEVER THE INPUT: true; the input reads as it did. -/
def fnExactSetBytesSpec : ChangeSpec := { name := "fnExactSetBytes", fn := fun _ => fun
  | [d] => { results := [.lit (.bool true)], args := [d] }
  | _ => none }
def fnExactSetBytesRow : OpenClaim := { program := "ytbkncnlehlldeaa", sum := "8a95f61ad33af14c6a01f2e79b41fb57cb43980427690b0de36b7bcf4f3fe574", func := "loop.example/g00243/laws.FnExactSetBytes", spec := "fnExactSetBytes", recurses := true, apart := false }
def FnExactSetBytesSaid : Prop := fnExactSetBytesRow.holds Try.pinned (OpenSpec.ofChange fnExactSetBytesSpec)

/-- ITS FALSE NEIGHBOUR: 'it returns false'. Refute it at one input. -/
def fnExactSetBytesWrong : ChangeSpec := { name := "fnExactSetBytes", fn := fun _ => fun
  | [d] => { results := [.lit (.bool false)], args := [d] }
  | _ => none }
def FnExactSetBytesWrongFalsely : Prop := fnExactSetBytesRow.holds Try.pinned (OpenSpec.ofChange fnExactSetBytesWrong)

/-- 'laws.FnExactSetOf': WHATEVER THE INPUT: true; the input reads as it did. -/
def fnExactSetOfSpec : ChangeSpec := { name := "fnExactSetOf", fn := fun _ => fun
  | [d] => { results := [.lit (.bool true)], args := [d] }
  | _ => none }
def fnExactSetOfRow : OpenClaim := { program := "ytbkncnlehlldeaa", sum := "8a95f61ad33af14c6a01f2e79b41fb57cb43980427690b0de36b7bcf4f3fe574", func := "loop.example/g00243/laws.FnExactSetOf", spec := "fnExactSetOf", recurses := true, apart := false }
def FnExactSetOfSaid : Prop := fnExactSetOfRow.holds Try.pinned (OpenSpec.ofChange fnExactSetOfSpec)

/-- ITS FALSE NEIGHBOUR: 'it returns false'. Refute it at one input. -/
def fnExactSetOfWrong : ChangeSpec := { name := "fnExactSetOf", fn := fun _ => fun
  | [d] => { results := [.lit (.bool false)], args := [d] }
  | _ => none }
def FnExactSetOfWrongFalsely : Prop := fnExactSetOfRow.holds Try.pinned (OpenSpec.ofChange fnExactSetOfWrong)

/-- 'laws.FnExactJoinSets': WHATEVER THE INPUT: true; the input reads as it did. -/
def fnExactJoinSetsSpec : ChangeSpec := { name := "fnExactJoinSets", fn := fun _ => fun
  | [d1, d2] => { results := [.lit (.bool true)], args := [d1, d2] }
  | _ => none }
def fnExactJoinSetsRow : OpenClaim := { program := "ytbkncnlehlldeaa", sum := "8a95f61ad33af14c6a01f2e79b41fb57cb43980427690b0de36b7bcf4f3fe574", func := "loop.example/g00243/laws.FnExactJoinSets", spec := "fnExactJoinSets", recurses := true, apart := false }
def FnExactJoinSetsSaid : Prop := fnExactJoinSetsRow.holds Try.pinned (OpenSpec.ofChange fnExactJoinSetsSpec)

/-- ITS FALSE NEIGHBOUR: 'it returns false'. Refute it at one input. -/
def fnExactJoinSetsWrong : ChangeSpec := { name := "fnExactJoinSets", fn := fun _ => fun
  | [d1, d2] => { results := [.lit (.bool false)], args := [d1, d2] }
  | _ => none }
def FnExactJoinSetsWrongFalsely : Prop := fnExactJoinSetsRow.holds Try.pinned (OpenSpec.ofChange fnExactJoinSetsWrong)

/-- 'laws.FnExactMeetSets': WHATEVER THE INPUT: true; the input reads as it did. -/
def fnExactMeetSetsSpec : ChangeSpec := { name := "fnExactMeetSets", fn := fun _ => fun
  | [d1, d2] => { results := [.lit (.bool true)], args := [d1, d2] }
  | _ => none }
def fnExactMeetSetsRow : OpenClaim := { program := "ytbkncnlehlldeaa", sum := "8a95f61ad33af14c6a01f2e79b41fb57cb43980427690b0de36b7bcf4f3fe574", func := "loop.example/g00243/laws.FnExactMeetSets", spec := "fnExactMeetSets", inPlace := ["internal/bytealg.IndexByteString"], recurses := true, apart := false }
def FnExactMeetSetsSaid : Prop := fnExactMeetSetsRow.holds Try.pinned (OpenSpec.ofChange fnExactMeetSetsSpec)

/-- ITS FALSE NEIGHBOUR: 'it returns false'. Refute it at one input. -/
def fnExactMeetSetsWrong : ChangeSpec := { name := "fnExactMeetSets", fn := fun _ => fun
  | [d1, d2] => { results := [.lit (.bool false)], args := [d1, d2] }
  | _ => none }
def FnExactMeetSetsWrongFalsely : Prop := fnExactMeetSetsRow.holds Try.pinned (OpenSpec.ofChange fnExactMeetSetsWrong)

/-- 'laws.FnSets': WHATEVER THE INPUT: true; the input reads as it did. -/
def fnSetsSpec : ChangeSpec := { name := "fnSets", fn := fun _ => fun
  | [d] => { results := [.lit (.bool true)], args := [d] }
  | _ => none }
def fnSetsRow : OpenClaim := { program := "ytbkncnlehlldeaa", sum := "8a95f61ad33af14c6a01f2e79b41fb57cb43980427690b0de36b7bcf4f3fe574", func := "loop.example/g00243/laws.FnSets", spec := "fnSets", inPlace := ["internal/bytealg.IndexByteString"], recurses := true, apart := false }
def FnSetsSaid : Prop := fnSetsRow.holds Try.pinned (OpenSpec.ofChange fnSetsSpec)

/-- ITS FALSE NEIGHBOUR: 'it returns false'. Refute it at one input. -/
def fnSetsWrong : ChangeSpec := { name := "fnSets", fn := fun _ => fun
  | [d] => { results := [.lit (.bool false)], args := [d] }
  | _ => none }
def FnSetsWrongFalsely : Prop := fnSetsRow.holds Try.pinned (OpenSpec.ofChange fnSetsWrong)

/-- 'laws.FnSetsOf': WHATEVER THE INPUT: true; the input reads as it did. -/
def fnSetsOfSpec : ChangeSpec := { name := "fnSetsOf", fn := fun _ => fun
  | [d] => { results := [.lit (.bool true)], args := [d] }
  | _ => none }
def fnSetsOfRow : OpenClaim := { program := "ytbkncnlehlldeaa", sum := "8a95f61ad33af14c6a01f2e79b41fb57cb43980427690b0de36b7bcf4f3fe574", func := "loop.example/g00243/laws.FnSetsOf", spec := "fnSetsOf", inPlace := ["internal/bytealg.IndexByteString"], recurses := true, apart := false }
def FnSetsOfSaid : Prop := fnSetsOfRow.holds Try.pinned (OpenSpec.ofChange fnSetsOfSpec)

/-- ITS FALSE NEIGHBOUR: 'it returns false'. Refute it at one input. -/
def fnSetsOfWrong : ChangeSpec := { name := "fnSetsOf", fn := fun _ => fun
  | [d] => { results := [.lit (.bool false)], args := [d] }
  | _ => none }
def FnSetsOfWrongFalsely : Prop := fnSetsOfRow.holds Try.pinned (OpenSpec.ofChange fnSetsOfWrong)

/-- 'laws.FnSetsJoined': WHATEVER THE INPUT: true; the input reads as it did. -/
def fnSetsJoinedSpec : ChangeSpec := { name := "fnSetsJoined", fn := fun _ => fun
  | [d] => { results := [.lit (.bool true)], args := [d] }
  | _ => none }
def fnSetsJoinedRow : OpenClaim := { program := "ytbkncnlehlldeaa", sum := "8a95f61ad33af14c6a01f2e79b41fb57cb43980427690b0de36b7bcf4f3fe574", func := "loop.example/g00243/laws.FnSetsJoined", spec := "fnSetsJoined", inPlace := ["internal/bytealg.IndexByteString"], recurses := true, apart := false }
def FnSetsJoinedSaid : Prop := fnSetsJoinedRow.holds Try.pinned (OpenSpec.ofChange fnSetsJoinedSpec)

/-- ITS FALSE NEIGHBOUR: 'it returns false'. Refute it at one input. -/
def fnSetsJoinedWrong : ChangeSpec := { name := "fnSetsJoined", fn := fun _ => fun
  | [d] => { results := [.lit (.bool false)], args := [d] }
  | _ => none }
def FnSetsJoinedWrongFalsely : Prop := fnSetsJoinedRow.holds Try.pinned (OpenSpec.ofChange fnSetsJoinedWrong)

/-- 'laws.FnSetsMet': WHATEVER THE INPUT: true; the input reads as it did. -/
def fnSetsMetSpec : ChangeSpec := { name := "fnSetsMet", fn := fun _ => fun
  | [d] => { results := [.lit (.bool true)], args := [d] }
  | _ => none }
def fnSetsMetRow : OpenClaim := { program := "ytbkncnlehlldeaa", sum := "8a95f61ad33af14c6a01f2e79b41fb57cb43980427690b0de36b7bcf4f3fe574", func := "loop.example/g00243/laws.FnSetsMet", spec := "fnSetsMet", inPlace := ["internal/bytealg.IndexByteString"], recurses := true, apart := false }
def FnSetsMetSaid : Prop := fnSetsMetRow.holds Try.pinned (OpenSpec.ofChange fnSetsMetSpec)

/-- ITS FALSE NEIGHBOUR: 'it returns false'. Refute it at one input. -/
def fnSetsMetWrong : ChangeSpec := { name := "fnSetsMet", fn := fun _ => fun
  | [d] => { results := [.lit (.bool false)], args := [d] }
  | _ => none }
def FnSetsMetWrongFalsely : Prop := fnSetsMetRow.holds Try.pinned (OpenSpec.ofChange fnSetsMetWrong)

/- THE SECOND FORM. 'bulk': how many values and letters a reading holds, each counted each time it is reached (what is shared counts as often as it is met; a slice's spare places count too). A statement '..UptoSaid' is the law's where the arguments, and the package variables that the reading takes, are together of bulk at most 1048576: NARROWER than '..Said'. Prove '..Said' where nothing that the law and all that it calls make is longer than what came in: it says more and counts as full. Else prove '..UptoSaid'. A law counts once. -/
mutual
def uptoBulk {H : Type} : DataW H → Nat
  | .lit (.string bytes) => bytes.length + 1
  | .lit _ => 1
  | .nil => 1
  | .ptr d => uptoBulk d + 1
  | .slice elems spare => uptoBulkAll elems + uptoBulkAll spare + 1
  | .agg parts => uptoBulkAll parts + 1
  | .iface _ d => uptoBulk d + 1
  | .map entries => uptoBulkEntries entries + 1
  | .held _ => 1
def uptoBulkAll {H : Type} : List (DataW H) → Nat
  | [] => 0
  | d :: r => uptoBulk d + uptoBulkAll r
def uptoBulkEntries {H : Type} : List (Lit × DataW H) → Nat
  | [] => 0
  | x :: r => uptoBulkEntry x + uptoBulkEntries r
def uptoBulkEntry {H : Type} : Lit × DataW H → Nat
  | (.string bytes, d) => bytes.length + uptoBulk d + 1
  | (_, d) => uptoBulk d + 1
 end
def uptoSmall : (H : Type) → List (DataW H) → Bool := fun _ ds => decide (uptoBulkAll ds ≤ 1048576)
def OpenSpec.upto (s : _root_.Go.ChangeSpec) : _root_.Go.OpenSpec := { _root_.Go.OpenSpec.ofChange s with cond := some uptoSmall }

/-- 'laws.FnExactSetOk', WHERE WHAT IT READS IS OF BULK AT MOST 1048576: true; the input reads as it did. -/
def fnExactSetOkUptoRow : OpenClaim := { program := "ytbkncnlehlldeaa", sum := "8a95f61ad33af14c6a01f2e79b41fb57cb43980427690b0de36b7bcf4f3fe574", func := "loop.example/g00243/laws.FnExactSetOk", spec := "fnExactSetOk", recurses := true, apart := false, narrowed := true }
def FnExactSetOkUptoSaid : Prop := fnExactSetOkUptoRow.holds Try.pinned (OpenSpec.upto fnExactSetOkSpec)

/-- 'laws.FnExactInSet', WHERE WHAT IT READS IS OF BULK AT MOST 1048576: true; the input reads as it did. -/
def fnExactInSetUptoRow : OpenClaim := { program := "ytbkncnlehlldeaa", sum := "8a95f61ad33af14c6a01f2e79b41fb57cb43980427690b0de36b7bcf4f3fe574", func := "loop.example/g00243/laws.FnExactInSet", spec := "fnExactInSet", inPlace := ["internal/bytealg.IndexByteString"], recurses := true, apart := false, narrowed := true }
def FnExactInSetUptoSaid : Prop := fnExactInSetUptoRow.holds Try.pinned (OpenSpec.upto fnExactInSetSpec)

/-- 'laws.FnExactSetBytes', WHERE WHAT IT READS IS OF BULK AT MOST 1048576: true; the input reads as it did. -/
def fnExactSetBytesUptoRow : OpenClaim := { program := "ytbkncnlehlldeaa", sum := "8a95f61ad33af14c6a01f2e79b41fb57cb43980427690b0de36b7bcf4f3fe574", func := "loop.example/g00243/laws.FnExactSetBytes", spec := "fnExactSetBytes", recurses := true, apart := false, narrowed := true }
def FnExactSetBytesUptoSaid : Prop := fnExactSetBytesUptoRow.holds Try.pinned (OpenSpec.upto fnExactSetBytesSpec)

/-- 'laws.FnExactSetOf', WHERE WHAT IT READS IS OF BULK AT MOST 1048576: true; the input reads as it did. -/
def fnExactSetOfUptoRow : OpenClaim := { program := "ytbkncnlehlldeaa", sum := "8a95f61ad33af14c6a01f2e79b41fb57cb43980427690b0de36b7bcf4f3fe574", func := "loop.example/g00243/laws.FnExactSetOf", spec := "fnExactSetOf", recurses := true, apart := false, narrowed := true }
def FnExactSetOfUptoSaid : Prop := fnExactSetOfUptoRow.holds Try.pinned (OpenSpec.upto fnExactSetOfSpec)

/-- 'laws.FnExactJoinSets', WHERE WHAT IT READS IS OF BULK AT MOST 1048576: true; the input reads as it did. -/
def fnExactJoinSetsUptoRow : OpenClaim := { program := "ytbkncnlehlldeaa", sum := "8a95f61ad33af14c6a01f2e79b41fb57cb43980427690b0de36b7bcf4f3fe574", func := "loop.example/g00243/laws.FnExactJoinSets", spec := "fnExactJoinSets", recurses := true, apart := false, narrowed := true }
def FnExactJoinSetsUptoSaid : Prop := fnExactJoinSetsUptoRow.holds Try.pinned (OpenSpec.upto fnExactJoinSetsSpec)

/-- 'laws.FnExactMeetSets', WHERE WHAT IT READS IS OF BULK AT MOST 1048576: true; the input reads as it did. -/
def fnExactMeetSetsUptoRow : OpenClaim := { program := "ytbkncnlehlldeaa", sum := "8a95f61ad33af14c6a01f2e79b41fb57cb43980427690b0de36b7bcf4f3fe574", func := "loop.example/g00243/laws.FnExactMeetSets", spec := "fnExactMeetSets", inPlace := ["internal/bytealg.IndexByteString"], recurses := true, apart := false, narrowed := true }
def FnExactMeetSetsUptoSaid : Prop := fnExactMeetSetsUptoRow.holds Try.pinned (OpenSpec.upto fnExactMeetSetsSpec)

/-- 'laws.FnSets', WHERE WHAT IT READS IS OF BULK AT MOST 1048576: true; the input reads as it did. -/
def fnSetsUptoRow : OpenClaim := { program := "ytbkncnlehlldeaa", sum := "8a95f61ad33af14c6a01f2e79b41fb57cb43980427690b0de36b7bcf4f3fe574", func := "loop.example/g00243/laws.FnSets", spec := "fnSets", inPlace := ["internal/bytealg.IndexByteString"], recurses := true, apart := false, narrowed := true }
def FnSetsUptoSaid : Prop := fnSetsUptoRow.holds Try.pinned (OpenSpec.upto fnSetsSpec)

/-- 'laws.FnSetsOf', WHERE WHAT IT READS IS OF BULK AT MOST 1048576: true; the input reads as it did. -/
def fnSetsOfUptoRow : OpenClaim := { program := "ytbkncnlehlldeaa", sum := "8a95f61ad33af14c6a01f2e79b41fb57cb43980427690b0de36b7bcf4f3fe574", func := "loop.example/g00243/laws.FnSetsOf", spec := "fnSetsOf", inPlace := ["internal/bytealg.IndexByteString"], recurses := true, apart := false, narrowed := true }
def FnSetsOfUptoSaid : Prop := fnSetsOfUptoRow.holds Try.pinned (OpenSpec.upto fnSetsOfSpec)

/-- 'laws.FnSetsJoined', WHERE WHAT IT READS IS OF BULK AT MOST 1048576: true; the input reads as it did. -/
def fnSetsJoinedUptoRow : OpenClaim := { program := "ytbkncnlehlldeaa", sum := "8a95f61ad33af14c6a01f2e79b41fb57cb43980427690b0de36b7bcf4f3fe574", func := "loop.example/g00243/laws.FnSetsJoined", spec := "fnSetsJoined", inPlace := ["internal/bytealg.IndexByteString"], recurses := true, apart := false, narrowed := true }
def FnSetsJoinedUptoSaid : Prop := fnSetsJoinedUptoRow.holds Try.pinned (OpenSpec.upto fnSetsJoinedSpec)

/-- 'laws.FnSetsMet', WHERE WHAT IT READS IS OF BULK AT MOST 1048576: true; the input reads as it did. -/
def fnSetsMetUptoRow : OpenClaim := { program := "ytbkncnlehlldeaa", sum := "8a95f61ad33af14c6a01f2e79b41fb57cb43980427690b0de36b7bcf4f3fe574", func := "loop.example/g00243/laws.FnSetsMet", spec := "fnSetsMet", inPlace := ["internal/bytealg.IndexByteString"], recurses := true, apart := false, narrowed := true }
def FnSetsMetUptoSaid : Prop := fnSetsMetUptoRow.holds Try.pinned (OpenSpec.upto fnSetsMetSpec)

end Rows
end Go.Proofs.Ytbkncnlehlldeaa
