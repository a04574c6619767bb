/-
  DERIVED. GIVEN WITH THE SEED: THE CARDS: each row of YteioheookffjiaaDoorRows.lean that lists a variable, with what it lists TIED to the program's text (the seventh form; the later family's looks); each row that meets fmt, with fmt's text TOLD by the authors' own Lean function (tested against real Go, not proved from fmt's source: count such statements apart). THE CARD IS WHAT COUNTS. Prove the row's statement (the work); the ties are given (YteioheookffjiaaDoorTie.lean); close each card by the builder's one call (the guide's Derived/Test/ToyasCard.lean, 'card_holds'). Laid BY PROGRAM, IN A SANDBOX (cutbox-door.mjs). By AI agents, Wed Nov 11 2026. No macro, syntax, notation, axiom, sorry.
-/
import Derived.Test.YteioheookffjiaaDoorRows
import GoSem.ClaimSeven
namespace Go.Proofs.YteioheookffjiaaDoor
namespace Rows

/-- THE TIED CARD OF 'netlablaw01.BitMonotone'. -/
def bitMonotoneCard : Claim7 := { stood := { row := bitMonotoneRow, standIns := [], harness := (true, "aa7cbd69a33f94d8d74cbadb9fdff549dfb9b6d584bbd5a8f574641a8646a013"), looks := false }, kinds := [], alts := [], laidByText := true, laidKinds := [.data, .data, .data, .data], laidTests := true, laidLooks := .later }
def BitMonotoneCardSaid : Prop := Claim7.holds Tryd.pinned (.plain (OpenSpec.ofChange bitMonotoneSpec)) bitMonotoneCard

/-- THE TIED CARD OF 'netlablaw01.BitAlgebra'. -/
def bitAlgebraCard : Claim7 := { stood := { row := bitAlgebraRow, standIns := [], harness := (true, "aa7cbd69a33f94d8d74cbadb9fdff549dfb9b6d584bbd5a8f574641a8646a013"), looks := false }, kinds := [], alts := [], laidByText := true, laidKinds := [.data, .data, .data, .data], laidTests := true, laidLooks := .later }
def BitAlgebraCardSaid : Prop := Claim7.holds Tryd.pinned (.plain (OpenSpec.ofChange bitAlgebraSpec)) bitAlgebraCard

/-- THE TIED CARD OF 'netlablaw01.BitOrder'. -/
def bitOrderCard : Claim7 := { stood := { row := bitOrderRow, standIns := [], harness := (true, "aa7cbd69a33f94d8d74cbadb9fdff549dfb9b6d584bbd5a8f574641a8646a013"), looks := false }, kinds := [], alts := [], laidByText := true, laidKinds := [.data, .data, .data, .data], laidTests := true, laidLooks := .later }
def BitOrderCardSaid : Prop := Claim7.holds Tryd.pinned (.plain (OpenSpec.ofChange bitOrderSpec)) bitOrderCard

/-- THE TIED CARD OF 'netlablaw01.BitMatches'. -/
def bitMatchesCard : Claim7 := { stood := { row := bitMatchesRow, standIns := [], harness := (true, "aa7cbd69a33f94d8d74cbadb9fdff549dfb9b6d584bbd5a8f574641a8646a013"), looks := false }, kinds := [], alts := [], laidByText := true, laidKinds := [.data, .data, .data, .data], laidTests := true, laidLooks := .later }
def BitMatchesCardSaid : Prop := Claim7.holds Tryd.pinned (.plain (OpenSpec.ofChange bitMatchesSpec)) bitMatchesCard

/-- THE TIED CARD OF 'netlablaw01.BitExamples'. -/
def bitExamplesCard : Claim7 := { stood := { row := bitExamplesRow, standIns := [], harness := (true, "aa7cbd69a33f94d8d74cbadb9fdff549dfb9b6d584bbd5a8f574641a8646a013"), looks := false }, kinds := [], alts := [], laidByText := true, laidKinds := [.data, .data, .data, .data], laidTests := true, laidLooks := .later }
def BitExamplesCardSaid : Prop := Claim7.holds Tryd.pinned (.plain (OpenSpec.ofChange bitExamplesSpec)) bitExamplesCard

/-- THE TIED CARD OF 'netlablaw01.BitChars'. -/
def bitCharsCard : Claim7 := { stood := { row := bitCharsRow, standIns := [], harness := (true, "aa7cbd69a33f94d8d74cbadb9fdff549dfb9b6d584bbd5a8f574641a8646a013"), looks := false }, kinds := [], alts := [], laidByText := true, laidKinds := [.data, .data, .data, .data], laidTests := true, laidLooks := .later }
def BitCharsCardSaid : Prop := Claim7.holds Tryd.pinned (.plain (OpenSpec.ofChange bitCharsSpec)) bitCharsCard

/-- THE TIED CARD OF 'netlablaw01.BitParseMatches'. -/
def bitParseMatchesCard : Claim7 := { stood := { row := bitParseMatchesRow, standIns := [], harness := (true, "aa7cbd69a33f94d8d74cbadb9fdff549dfb9b6d584bbd5a8f574641a8646a013"), looks := false }, kinds := [], alts := [], laidByText := true, laidKinds := [.data, .data, .data, .data], laidTests := true, laidLooks := .later }
def BitParseMatchesCardSaid : Prop := Claim7.holds Tryd.pinned (.plain (OpenSpec.ofChange bitParseMatchesSpec)) bitParseMatchesCard

/-- THE TIED CARD OF 'netlablaw01.BitBoolean'. -/
def bitBooleanCard : Claim7 := { stood := { row := bitBooleanRow, standIns := [], harness := (true, "aa7cbd69a33f94d8d74cbadb9fdff549dfb9b6d584bbd5a8f574641a8646a013"), looks := false }, kinds := [], alts := [], laidByText := true, laidKinds := [.data, .data, .data, .data], laidTests := true, laidLooks := .later }
def BitBooleanCardSaid : Prop := Claim7.holds Tryd.pinned (.plain (OpenSpec.ofChange bitBooleanSpec)) bitBooleanCard

/-- THE SECOND FORM's CARD OF 'netlablaw01.BitMonotone'. -/
def bitMonotoneUptoCard : Claim7 := { stood := { row := bitMonotoneUptoRow, standIns := [], harness := (true, "aa7cbd69a33f94d8d74cbadb9fdff549dfb9b6d584bbd5a8f574641a8646a013"), looks := false }, kinds := [], alts := [], laidByText := true, laidKinds := [.data, .data, .data, .data], laidTests := true, laidLooks := .later }
def BitMonotoneUptoCardSaid : Prop := Claim7.holds Tryd.pinned (.plain (OpenSpec.upto bitMonotoneSpec)) bitMonotoneUptoCard

/-- THE SECOND FORM's CARD OF 'netlablaw01.BitAlgebra'. -/
def bitAlgebraUptoCard : Claim7 := { stood := { row := bitAlgebraUptoRow, standIns := [], harness := (true, "aa7cbd69a33f94d8d74cbadb9fdff549dfb9b6d584bbd5a8f574641a8646a013"), looks := false }, kinds := [], alts := [], laidByText := true, laidKinds := [.data, .data, .data, .data], laidTests := true, laidLooks := .later }
def BitAlgebraUptoCardSaid : Prop := Claim7.holds Tryd.pinned (.plain (OpenSpec.upto bitAlgebraSpec)) bitAlgebraUptoCard

/-- THE SECOND FORM's CARD OF 'netlablaw01.BitOrder'. -/
def bitOrderUptoCard : Claim7 := { stood := { row := bitOrderUptoRow, standIns := [], harness := (true, "aa7cbd69a33f94d8d74cbadb9fdff549dfb9b6d584bbd5a8f574641a8646a013"), looks := false }, kinds := [], alts := [], laidByText := true, laidKinds := [.data, .data, .data, .data], laidTests := true, laidLooks := .later }
def BitOrderUptoCardSaid : Prop := Claim7.holds Tryd.pinned (.plain (OpenSpec.upto bitOrderSpec)) bitOrderUptoCard

/-- THE SECOND FORM's CARD OF 'netlablaw01.BitMatches'. -/
def bitMatchesUptoCard : Claim7 := { stood := { row := bitMatchesUptoRow, standIns := [], harness := (true, "aa7cbd69a33f94d8d74cbadb9fdff549dfb9b6d584bbd5a8f574641a8646a013"), looks := false }, kinds := [], alts := [], laidByText := true, laidKinds := [.data, .data, .data, .data], laidTests := true, laidLooks := .later }
def BitMatchesUptoCardSaid : Prop := Claim7.holds Tryd.pinned (.plain (OpenSpec.upto bitMatchesSpec)) bitMatchesUptoCard

/-- THE SECOND FORM's CARD OF 'netlablaw01.BitExamples'. -/
def bitExamplesUptoCard : Claim7 := { stood := { row := bitExamplesUptoRow, standIns := [], harness := (true, "aa7cbd69a33f94d8d74cbadb9fdff549dfb9b6d584bbd5a8f574641a8646a013"), looks := false }, kinds := [], alts := [], laidByText := true, laidKinds := [.data, .data, .data, .data], laidTests := true, laidLooks := .later }
def BitExamplesUptoCardSaid : Prop := Claim7.holds Tryd.pinned (.plain (OpenSpec.upto bitExamplesSpec)) bitExamplesUptoCard

/-- THE SECOND FORM's CARD OF 'netlablaw01.BitChars'. -/
def bitCharsUptoCard : Claim7 := { stood := { row := bitCharsUptoRow, standIns := [], harness := (true, "aa7cbd69a33f94d8d74cbadb9fdff549dfb9b6d584bbd5a8f574641a8646a013"), looks := false }, kinds := [], alts := [], laidByText := true, laidKinds := [.data, .data, .data, .data], laidTests := true, laidLooks := .later }
def BitCharsUptoCardSaid : Prop := Claim7.holds Tryd.pinned (.plain (OpenSpec.upto bitCharsSpec)) bitCharsUptoCard

/-- THE SECOND FORM's CARD OF 'netlablaw01.BitParseMatches'. -/
def bitParseMatchesUptoCard : Claim7 := { stood := { row := bitParseMatchesUptoRow, standIns := [], harness := (true, "aa7cbd69a33f94d8d74cbadb9fdff549dfb9b6d584bbd5a8f574641a8646a013"), looks := false }, kinds := [], alts := [], laidByText := true, laidKinds := [.data, .data, .data, .data], laidTests := true, laidLooks := .later }
def BitParseMatchesUptoCardSaid : Prop := Claim7.holds Tryd.pinned (.plain (OpenSpec.upto bitParseMatchesSpec)) bitParseMatchesUptoCard

/-- THE SECOND FORM's CARD OF 'netlablaw01.BitBoolean'. -/
def bitBooleanUptoCard : Claim7 := { stood := { row := bitBooleanUptoRow, standIns := [], harness := (true, "aa7cbd69a33f94d8d74cbadb9fdff549dfb9b6d584bbd5a8f574641a8646a013"), looks := false }, kinds := [], alts := [], laidByText := true, laidKinds := [.data, .data, .data, .data], laidTests := true, laidLooks := .later }
def BitBooleanUptoCardSaid : Prop := Claim7.holds Tryd.pinned (.plain (OpenSpec.upto bitBooleanSpec)) bitBooleanUptoCard
end Rows
end Go.Proofs.YteioheookffjiaaDoor
