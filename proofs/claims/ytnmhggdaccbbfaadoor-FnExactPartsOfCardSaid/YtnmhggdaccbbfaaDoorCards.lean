/-
  DERIVED. GIVEN WITH THE SEED: THE CARDS: each row of YtnmhggdaccbbfaaDoorRows.lean that lists a variable, with what it lists TIED to the program's text (the seventh form; the later family's looks); each row that meets fmt, with fmt's text TOLD by the authors' own Lean function (tested against real Go, not proved from fmt's source: count such statements apart). THE CARD IS WHAT COUNTS. Prove the row's statement (the work); the ties are given (YtnmhggdaccbbfaaDoorTie.lean); close each card by the builder's one call (the guide's Derived/Test/ToyasCard.lean, 'card_holds'). Laid BY PROGRAM, IN A SANDBOX (cutbox-door.mjs). By AI agents, Wed Nov 11 2026. No macro, syntax, notation, axiom, sorry.
-/
import Derived.Test.YtnmhggdaccbbfaaDoorRows
import GoSem.ClaimSeven
namespace Go.Proofs.YtnmhggdaccbbfaaDoor
namespace Rows

/-- THE TIED CARD OF 'laws.FnExactDecimal'. -/
def fnExactDecimalCard : Claim7 := { stood := { row := fnExactDecimalRow, standIns := [], harness := (true, "60678590a5b564d5103986a879b7ee83e23df7e9d7260adc2982358b96294f3b"), looks := false }, kinds := [], alts := [], laidByText := true, laidKinds := [.data, .data, .data], laidTests := true, laidLooks := .later }
def FnExactDecimalCardSaid : Prop := Claim7.holds Tryd.pinned (.plain (OpenSpec.ofChange fnExactDecimalSpec)) fnExactDecimalCard

/-- THE TIED CARD OF 'laws.FnExactPartsOf'. -/
def fnExactPartsOfCard : Claim7 := { stood := { row := fnExactPartsOfRow, standIns := [], harness := (true, "60678590a5b564d5103986a879b7ee83e23df7e9d7260adc2982358b96294f3b"), looks := false }, kinds := [], alts := [], laidByText := true, laidKinds := [.data, .pinned], laidTests := true, laidLooks := .later }
def FnExactPartsOfCardSaid : Prop := Claim7.holds Tryd.pinned (.plain (OpenSpec.ofChange fnExactPartsOfSpec)) fnExactPartsOfCard

/-- THE TIED CARD OF 'laws.FnExactEnvText'. -/
def fnExactEnvTextCard : Claim7 := { stood := { row := fnExactEnvTextRow, standIns := [], harness := (true, "60678590a5b564d5103986a879b7ee83e23df7e9d7260adc2982358b96294f3b"), looks := false }, kinds := [], alts := [], laidByText := true, laidKinds := [.data, .data, .data], laidTests := true, laidLooks := .later }
def FnExactEnvTextCardSaid : Prop := Claim7.holds Tryd.pinned (.plain (OpenSpec.ofChange fnExactEnvTextSpec)) fnExactEnvTextCard

/-- THE TIED CARD OF 'laws.FnExactShowExpr'. -/
def fnExactShowExprCard : Claim7 := { stood := { row := fnExactShowExprRow, standIns := [], harness := (true, "60678590a5b564d5103986a879b7ee83e23df7e9d7260adc2982358b96294f3b"), looks := false }, kinds := [], alts := [], laidByText := true, laidKinds := [.data, .data, .data], laidTests := true, laidLooks := .later }
def FnExactShowExprCardSaid : Prop := Claim7.holds Tryd.pinned (.plain (OpenSpec.ofChange fnExactShowExprSpec)) fnExactShowExprCard

/-- THE TIED CARD OF 'laws.FnEnvTexts'. -/
def fnEnvTextsCard : Claim7 := { stood := { row := fnEnvTextsRow, standIns := [], harness := (true, "60678590a5b564d5103986a879b7ee83e23df7e9d7260adc2982358b96294f3b"), looks := false }, kinds := [], alts := [], laidByText := true, laidKinds := [.data, .data, .data], laidTests := true, laidLooks := .later }
def FnEnvTextsCardSaid : Prop := Claim7.holds Tryd.pinned (.plain (OpenSpec.ofChange fnEnvTextsSpec)) fnEnvTextsCard

/-- THE SECOND FORM's CARD OF 'laws.FnExactDecimal'. -/
def fnExactDecimalUptoCard : Claim7 := { stood := { row := fnExactDecimalUptoRow, standIns := [], harness := (true, "60678590a5b564d5103986a879b7ee83e23df7e9d7260adc2982358b96294f3b"), looks := false }, kinds := [], alts := [], laidByText := true, laidKinds := [.data, .data, .data], laidTests := true, laidLooks := .later }
def FnExactDecimalUptoCardSaid : Prop := Claim7.holds Tryd.pinned (.plain (OpenSpec.upto fnExactDecimalSpec)) fnExactDecimalUptoCard

/-- THE SECOND FORM's CARD OF 'laws.FnExactPartsOf'. -/
def fnExactPartsOfUptoCard : Claim7 := { stood := { row := fnExactPartsOfUptoRow, standIns := [], harness := (true, "60678590a5b564d5103986a879b7ee83e23df7e9d7260adc2982358b96294f3b"), looks := false }, kinds := [], alts := [], laidByText := true, laidKinds := [.data, .pinned], laidTests := true, laidLooks := .later }
def FnExactPartsOfUptoCardSaid : Prop := Claim7.holds Tryd.pinned (.plain (OpenSpec.upto fnExactPartsOfSpec)) fnExactPartsOfUptoCard

/-- THE SECOND FORM's CARD OF 'laws.FnExactEnvText'. -/
def fnExactEnvTextUptoCard : Claim7 := { stood := { row := fnExactEnvTextUptoRow, standIns := [], harness := (true, "60678590a5b564d5103986a879b7ee83e23df7e9d7260adc2982358b96294f3b"), looks := false }, kinds := [], alts := [], laidByText := true, laidKinds := [.data, .data, .data], laidTests := true, laidLooks := .later }
def FnExactEnvTextUptoCardSaid : Prop := Claim7.holds Tryd.pinned (.plain (OpenSpec.upto fnExactEnvTextSpec)) fnExactEnvTextUptoCard

/-- THE SECOND FORM's CARD OF 'laws.FnExactShowExpr'. -/
def fnExactShowExprUptoCard : Claim7 := { stood := { row := fnExactShowExprUptoRow, standIns := [], harness := (true, "60678590a5b564d5103986a879b7ee83e23df7e9d7260adc2982358b96294f3b"), looks := false }, kinds := [], alts := [], laidByText := true, laidKinds := [.data, .data, .data], laidTests := true, laidLooks := .later }
def FnExactShowExprUptoCardSaid : Prop := Claim7.holds Tryd.pinned (.plain (OpenSpec.upto fnExactShowExprSpec)) fnExactShowExprUptoCard

/-- THE SECOND FORM's CARD OF 'laws.FnEnvTexts'. -/
def fnEnvTextsUptoCard : Claim7 := { stood := { row := fnEnvTextsUptoRow, standIns := [], harness := (true, "60678590a5b564d5103986a879b7ee83e23df7e9d7260adc2982358b96294f3b"), looks := false }, kinds := [], alts := [], laidByText := true, laidKinds := [.data, .data, .data], laidTests := true, laidLooks := .later }
def FnEnvTextsUptoCardSaid : Prop := Claim7.holds Tryd.pinned (.plain (OpenSpec.upto fnEnvTextsSpec)) fnEnvTextsUptoCard
end Rows
end Go.Proofs.YtnmhggdaccbbfaaDoor
