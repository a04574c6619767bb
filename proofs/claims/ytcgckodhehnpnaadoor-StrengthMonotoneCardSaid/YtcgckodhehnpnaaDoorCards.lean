/-
  DERIVED. GIVEN WITH THE SEED: THE CARDS: each row of YtcgckodhehnpnaaDoorRows.lean that lists a variable, with what it lists TIED to the program's text (the seventh form; the later family's looks); each row that meets fmt, with fmt's text TOLD by the authors' own Lean function (tested against real Go, not proved from fmt's source: count such statements apart). THE CARD IS WHAT COUNTS. Prove the row's statement (the work); the ties are given (YtcgckodhehnpnaaDoorTie.lean); close each card by the builder's one call (the guide's Derived/Test/ToyasCard.lean, 'card_holds'). Laid BY PROGRAM, IN A SANDBOX (cutbox-door.mjs). By AI agents, Wed Nov 11 2026. No macro, syntax, notation, axiom, sorry.
-/
import Derived.Test.YtcgckodhehnpnaaDoorRows
import GoSem.ClaimSeven
namespace Go.Proofs.YtcgckodhehnpnaaDoor
namespace Rows

/-- THE TIED CARD OF 'netlablaw02.StrengthDriveMatches'. -/
def strengthDriveMatchesCard : Claim7 := { stood := { row := strengthDriveMatchesRow, standIns := [], harness := (true, "54480f958c213d06d9c0da02302ac8bcae24fe36bdf56f2e2f7ec42c6c76f8d7"), looks := false }, kinds := [], alts := [], laidByText := true, laidKinds := [.data], laidTests := true, laidLooks := .later }
def StrengthDriveMatchesCardSaid : Prop := Claim7.holds Tryd.pinned (.plain (OpenSpec.ofChange strengthDriveMatchesSpec)) strengthDriveMatchesCard

/-- THE TIED CARD OF 'netlablaw02.StrengthParseMatches'. -/
def strengthParseMatchesCard : Claim7 := { stood := { row := strengthParseMatchesRow, standIns := [], harness := (true, "54480f958c213d06d9c0da02302ac8bcae24fe36bdf56f2e2f7ec42c6c76f8d7"), looks := false }, kinds := [], alts := [], laidByText := true, laidKinds := [.data], laidTests := true, laidLooks := .later }
def StrengthParseMatchesCardSaid : Prop := Claim7.holds Tryd.pinned (.plain (OpenSpec.ofChange strengthParseMatchesSpec)) strengthParseMatchesCard

/-- THE TIED CARD OF 'netlablaw02.StrengthAlgebra'. -/
def strengthAlgebraCard : Claim7 := { stood := { row := strengthAlgebraRow, standIns := [], harness := (true, "54480f958c213d06d9c0da02302ac8bcae24fe36bdf56f2e2f7ec42c6c76f8d7"), looks := false }, kinds := [], alts := [], laidByText := true, laidKinds := [.data], laidTests := true, laidLooks := .later }
def StrengthAlgebraCardSaid : Prop := Claim7.holds Tryd.pinned (.plain (OpenSpec.ofChange strengthAlgebraSpec)) strengthAlgebraCard

/-- THE TIED CARD OF 'netlablaw02.StrengthDominance'. -/
def strengthDominanceCard : Claim7 := { stood := { row := strengthDominanceRow, standIns := [], harness := (true, "54480f958c213d06d9c0da02302ac8bcae24fe36bdf56f2e2f7ec42c6c76f8d7"), looks := false }, kinds := [], alts := [], laidByText := true, laidKinds := [.data], laidTests := true, laidLooks := .later }
def StrengthDominanceCardSaid : Prop := Claim7.holds Tryd.pinned (.plain (OpenSpec.ofChange strengthDominanceSpec)) strengthDominanceCard

/-- THE TIED CARD OF 'netlablaw02.StrengthNames'. -/
def strengthNamesCard : Claim7 := { stood := { row := strengthNamesRow, standIns := [], harness := (true, "54480f958c213d06d9c0da02302ac8bcae24fe36bdf56f2e2f7ec42c6c76f8d7"), looks := false }, kinds := [], alts := [], laidByText := true, laidKinds := [.data], laidTests := true, laidLooks := .later }
def StrengthNamesCardSaid : Prop := Claim7.holds Tryd.pinned (.plain (OpenSpec.ofChange strengthNamesSpec)) strengthNamesCard

/-- THE TIED CARD OF 'netlablaw02.StrengthMatches'. -/
def strengthMatchesCard : Claim7 := { stood := { row := strengthMatchesRow, standIns := [], harness := (true, "54480f958c213d06d9c0da02302ac8bcae24fe36bdf56f2e2f7ec42c6c76f8d7"), looks := false }, kinds := [], alts := [], laidByText := true, laidKinds := [.data], laidTests := true, laidLooks := .later }
def StrengthMatchesCardSaid : Prop := Claim7.holds Tryd.pinned (.plain (OpenSpec.ofChange strengthMatchesSpec)) strengthMatchesCard

/-- THE TIED CARD OF 'netlablaw02.StrengthExamples'. -/
def strengthExamplesCard : Claim7 := { stood := { row := strengthExamplesRow, standIns := [], harness := (true, "54480f958c213d06d9c0da02302ac8bcae24fe36bdf56f2e2f7ec42c6c76f8d7"), looks := false }, kinds := [], alts := [], laidByText := true, laidKinds := [.data], laidTests := true, laidLooks := .later }
def StrengthExamplesCardSaid : Prop := Claim7.holds Tryd.pinned (.plain (OpenSpec.ofChange strengthExamplesSpec)) strengthExamplesCard

/-- THE TIED CARD OF 'netlablaw02.StrengthElements'. -/
def strengthElementsCard : Claim7 := { stood := { row := strengthElementsRow, standIns := [], harness := (true, "54480f958c213d06d9c0da02302ac8bcae24fe36bdf56f2e2f7ec42c6c76f8d7"), looks := false }, kinds := [], alts := [], laidByText := true, laidKinds := [.data], laidTests := true, laidLooks := .later }
def StrengthElementsCardSaid : Prop := Claim7.holds Tryd.pinned (.plain (OpenSpec.ofChange strengthElementsSpec)) strengthElementsCard

/-- THE TIED CARD OF 'netlablaw02.StrengthDrivers'. -/
def strengthDriversCard : Claim7 := { stood := { row := strengthDriversRow, standIns := [], harness := (true, "54480f958c213d06d9c0da02302ac8bcae24fe36bdf56f2e2f7ec42c6c76f8d7"), looks := false }, kinds := [], alts := [], laidByText := true, laidKinds := [.data], laidTests := true, laidLooks := .later }
def StrengthDriversCardSaid : Prop := Claim7.holds Tryd.pinned (.plain (OpenSpec.ofChange strengthDriversSpec)) strengthDriversCard

/-- THE TIED CARD OF 'netlablaw02.StrengthMonotone'. -/
def strengthMonotoneCard : Claim7 := { stood := { row := strengthMonotoneRow, standIns := [], harness := (true, "54480f958c213d06d9c0da02302ac8bcae24fe36bdf56f2e2f7ec42c6c76f8d7"), looks := false }, kinds := [], alts := [], laidByText := true, laidKinds := [.data], laidTests := true, laidLooks := .later }
def StrengthMonotoneCardSaid : Prop := Claim7.holds Tryd.pinned (.plain (OpenSpec.ofChange strengthMonotoneSpec)) strengthMonotoneCard

/-- THE SECOND FORM's CARD OF 'netlablaw02.StrengthDriveMatches'. -/
def strengthDriveMatchesUptoCard : Claim7 := { stood := { row := strengthDriveMatchesUptoRow, standIns := [], harness := (true, "54480f958c213d06d9c0da02302ac8bcae24fe36bdf56f2e2f7ec42c6c76f8d7"), looks := false }, kinds := [], alts := [], laidByText := true, laidKinds := [.data], laidTests := true, laidLooks := .later }
def StrengthDriveMatchesUptoCardSaid : Prop := Claim7.holds Tryd.pinned (.plain (OpenSpec.upto strengthDriveMatchesSpec)) strengthDriveMatchesUptoCard

/-- THE SECOND FORM's CARD OF 'netlablaw02.StrengthParseMatches'. -/
def strengthParseMatchesUptoCard : Claim7 := { stood := { row := strengthParseMatchesUptoRow, standIns := [], harness := (true, "54480f958c213d06d9c0da02302ac8bcae24fe36bdf56f2e2f7ec42c6c76f8d7"), looks := false }, kinds := [], alts := [], laidByText := true, laidKinds := [.data], laidTests := true, laidLooks := .later }
def StrengthParseMatchesUptoCardSaid : Prop := Claim7.holds Tryd.pinned (.plain (OpenSpec.upto strengthParseMatchesSpec)) strengthParseMatchesUptoCard

/-- THE SECOND FORM's CARD OF 'netlablaw02.StrengthAlgebra'. -/
def strengthAlgebraUptoCard : Claim7 := { stood := { row := strengthAlgebraUptoRow, standIns := [], harness := (true, "54480f958c213d06d9c0da02302ac8bcae24fe36bdf56f2e2f7ec42c6c76f8d7"), looks := false }, kinds := [], alts := [], laidByText := true, laidKinds := [.data], laidTests := true, laidLooks := .later }
def StrengthAlgebraUptoCardSaid : Prop := Claim7.holds Tryd.pinned (.plain (OpenSpec.upto strengthAlgebraSpec)) strengthAlgebraUptoCard

/-- THE SECOND FORM's CARD OF 'netlablaw02.StrengthDominance'. -/
def strengthDominanceUptoCard : Claim7 := { stood := { row := strengthDominanceUptoRow, standIns := [], harness := (true, "54480f958c213d06d9c0da02302ac8bcae24fe36bdf56f2e2f7ec42c6c76f8d7"), looks := false }, kinds := [], alts := [], laidByText := true, laidKinds := [.data], laidTests := true, laidLooks := .later }
def StrengthDominanceUptoCardSaid : Prop := Claim7.holds Tryd.pinned (.plain (OpenSpec.upto strengthDominanceSpec)) strengthDominanceUptoCard

/-- THE SECOND FORM's CARD OF 'netlablaw02.StrengthNames'. -/
def strengthNamesUptoCard : Claim7 := { stood := { row := strengthNamesUptoRow, standIns := [], harness := (true, "54480f958c213d06d9c0da02302ac8bcae24fe36bdf56f2e2f7ec42c6c76f8d7"), looks := false }, kinds := [], alts := [], laidByText := true, laidKinds := [.data], laidTests := true, laidLooks := .later }
def StrengthNamesUptoCardSaid : Prop := Claim7.holds Tryd.pinned (.plain (OpenSpec.upto strengthNamesSpec)) strengthNamesUptoCard

/-- THE SECOND FORM's CARD OF 'netlablaw02.StrengthMatches'. -/
def strengthMatchesUptoCard : Claim7 := { stood := { row := strengthMatchesUptoRow, standIns := [], harness := (true, "54480f958c213d06d9c0da02302ac8bcae24fe36bdf56f2e2f7ec42c6c76f8d7"), looks := false }, kinds := [], alts := [], laidByText := true, laidKinds := [.data], laidTests := true, laidLooks := .later }
def StrengthMatchesUptoCardSaid : Prop := Claim7.holds Tryd.pinned (.plain (OpenSpec.upto strengthMatchesSpec)) strengthMatchesUptoCard

/-- THE SECOND FORM's CARD OF 'netlablaw02.StrengthExamples'. -/
def strengthExamplesUptoCard : Claim7 := { stood := { row := strengthExamplesUptoRow, standIns := [], harness := (true, "54480f958c213d06d9c0da02302ac8bcae24fe36bdf56f2e2f7ec42c6c76f8d7"), looks := false }, kinds := [], alts := [], laidByText := true, laidKinds := [.data], laidTests := true, laidLooks := .later }
def StrengthExamplesUptoCardSaid : Prop := Claim7.holds Tryd.pinned (.plain (OpenSpec.upto strengthExamplesSpec)) strengthExamplesUptoCard

/-- THE SECOND FORM's CARD OF 'netlablaw02.StrengthElements'. -/
def strengthElementsUptoCard : Claim7 := { stood := { row := strengthElementsUptoRow, standIns := [], harness := (true, "54480f958c213d06d9c0da02302ac8bcae24fe36bdf56f2e2f7ec42c6c76f8d7"), looks := false }, kinds := [], alts := [], laidByText := true, laidKinds := [.data], laidTests := true, laidLooks := .later }
def StrengthElementsUptoCardSaid : Prop := Claim7.holds Tryd.pinned (.plain (OpenSpec.upto strengthElementsSpec)) strengthElementsUptoCard

/-- THE SECOND FORM's CARD OF 'netlablaw02.StrengthDrivers'. -/
def strengthDriversUptoCard : Claim7 := { stood := { row := strengthDriversUptoRow, standIns := [], harness := (true, "54480f958c213d06d9c0da02302ac8bcae24fe36bdf56f2e2f7ec42c6c76f8d7"), looks := false }, kinds := [], alts := [], laidByText := true, laidKinds := [.data], laidTests := true, laidLooks := .later }
def StrengthDriversUptoCardSaid : Prop := Claim7.holds Tryd.pinned (.plain (OpenSpec.upto strengthDriversSpec)) strengthDriversUptoCard

/-- THE SECOND FORM's CARD OF 'netlablaw02.StrengthMonotone'. -/
def strengthMonotoneUptoCard : Claim7 := { stood := { row := strengthMonotoneUptoRow, standIns := [], harness := (true, "54480f958c213d06d9c0da02302ac8bcae24fe36bdf56f2e2f7ec42c6c76f8d7"), looks := false }, kinds := [], alts := [], laidByText := true, laidKinds := [.data], laidTests := true, laidLooks := .later }
def StrengthMonotoneUptoCardSaid : Prop := Claim7.holds Tryd.pinned (.plain (OpenSpec.upto strengthMonotoneSpec)) strengthMonotoneUptoCard
end Rows
end Go.Proofs.YtcgckodhehnpnaaDoor
