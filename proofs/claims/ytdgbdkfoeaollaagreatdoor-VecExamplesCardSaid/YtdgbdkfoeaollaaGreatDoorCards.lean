/-
  DERIVED. GIVEN WITH THE SEED: THE CARDS: each row of YtdgbdkfoeaollaaGreatDoorRows.lean that lists a variable, with what it lists TIED to the program's text (the seventh form; the later family's looks); each row that meets fmt, with fmt's text TOLD by the authors' own Lean function (tested against real Go, not proved from fmt's source: count such statements apart). THE CARD IS WHAT COUNTS. Prove the row's statement (the work); the ties are given (YtdgbdkfoeaollaaGreatDoorTie.lean); close each card by the builder's one call (the guide's Derived/Test/ToyasCard.lean, 'card_holds'). Laid BY PROGRAM, IN A SANDBOX (cutbox-door.mjs). By AI agents, Wed Nov 11 2026. No macro, syntax, notation, axiom, sorry.
-/
import Derived.Test.YtdgbdkfoeaollaaGreatDoorRows
import GoSem.ClaimSeven
namespace Go.Proofs.YtdgbdkfoeaollaaGreatDoor
namespace Rows

/-- THE TIED CARD OF 'netlablaw04.VecMonotone'. -/
def vecMonotoneCard : Claim7 := { stood := { row := vecMonotoneRow, standIns := [], harness := (true, "58919f1e3de3997d63138bd9f894277e372e0c32b529c655fcde6967be374f91"), looks := false }, kinds := [], alts := [], laidByText := true, laidKinds := [.data, .data, .data, .data], laidTests := true, laidLooks := .later }
def VecMonotoneCardSaid : Prop := Claim7.holds Tryz.pinned (.plain (OpenSpec.ofChange vecMonotoneSpec)) vecMonotoneCard

/-- THE TIED CARD OF 'netlablaw04.VecExamples'. -/
def vecExamplesCard : Claim7 := { stood := { row := vecExamplesRow, standIns := [], harness := (true, "58919f1e3de3997d63138bd9f894277e372e0c32b529c655fcde6967be374f91"), looks := false }, kinds := [], alts := [], laidByText := true, laidKinds := [.data, .data, .data, .data], laidTests := true, laidLooks := .later }
def VecExamplesCardSaid : Prop := Claim7.holds Tryz.pinned (.plain (OpenSpec.ofChange vecExamplesSpec)) vecExamplesCard

/-- THE TIED CARD OF 'netlablaw04.VecBasicsMatch'. -/
def vecBasicsMatchCard : Claim7 := { stood := { row := vecBasicsMatchRow, standIns := [], harness := (true, "58919f1e3de3997d63138bd9f894277e372e0c32b529c655fcde6967be374f91"), looks := false }, kinds := [], alts := [], laidByText := true, laidKinds := [.data, .data, .data, .data], laidTests := true, laidLooks := .later }
def VecBasicsMatchCardSaid : Prop := Claim7.holds Tryz.pinned (.plain (OpenSpec.ofChange vecBasicsMatchSpec)) vecBasicsMatchCard

/-- THE TIED CARD OF 'netlablaw04.VecStructureMatches'. -/
def vecStructureMatchesCard : Claim7 := { stood := { row := vecStructureMatchesRow, standIns := [], harness := (true, "58919f1e3de3997d63138bd9f894277e372e0c32b529c655fcde6967be374f91"), looks := false }, kinds := [], alts := [], laidByText := true, laidKinds := [.data, .data, .data, .data], laidTests := true, laidLooks := .later }
def VecStructureMatchesCardSaid : Prop := Claim7.holds Tryz.pinned (.plain (OpenSpec.ofChange vecStructureMatchesSpec)) vecStructureMatchesCard

/-- THE TIED CARD OF 'netlablaw04.VecIntegers'. -/
def vecIntegersCard : Claim7 := { stood := { row := vecIntegersRow, standIns := [], harness := (true, "58919f1e3de3997d63138bd9f894277e372e0c32b529c655fcde6967be374f91"), looks := false }, kinds := [], alts := [], laidByText := true, laidKinds := [.data, .data, .data, .data], laidTests := true, laidLooks := .later }
def VecIntegersCardSaid : Prop := Claim7.holds Tryz.pinned (.plain (OpenSpec.ofChange vecIntegersSpec)) vecIntegersCard

/-- THE TIED CARD OF 'netlablaw04.VecUnknown'. -/
def vecUnknownCard : Claim7 := { stood := { row := vecUnknownRow, standIns := [], harness := (true, "58919f1e3de3997d63138bd9f894277e372e0c32b529c655fcde6967be374f91"), looks := false }, kinds := [], alts := [], laidByText := true, laidKinds := [.data, .data, .data, .data], laidTests := true, laidLooks := .later }
def VecUnknownCardSaid : Prop := Claim7.holds Tryz.pinned (.plain (OpenSpec.ofChange vecUnknownSpec)) vecUnknownCard

/-- THE TIED CARD OF 'netlablaw04.VecMatches'. -/
def vecMatchesCard : Claim7 := { stood := { row := vecMatchesRow, standIns := [], harness := (true, "58919f1e3de3997d63138bd9f894277e372e0c32b529c655fcde6967be374f91"), looks := false }, kinds := [], alts := [], laidByText := true, laidKinds := [.data, .data, .data, .data], laidTests := true, laidLooks := .later }
def VecMatchesCardSaid : Prop := Claim7.holds Tryz.pinned (.plain (OpenSpec.ofChange vecMatchesSpec)) vecMatchesCard

/-- THE SECOND FORM's CARD OF 'netlablaw04.VecMonotone'. -/
def vecMonotoneUptoCard : Claim7 := { stood := { row := vecMonotoneUptoRow, standIns := [], harness := (true, "58919f1e3de3997d63138bd9f894277e372e0c32b529c655fcde6967be374f91"), looks := false }, kinds := [], alts := [], laidByText := true, laidKinds := [.data, .data, .data, .data], laidTests := true, laidLooks := .later }
def VecMonotoneUptoCardSaid : Prop := Claim7.holds Tryz.pinned (.plain (OpenSpec.upto vecMonotoneSpec)) vecMonotoneUptoCard

/-- THE SECOND FORM's CARD OF 'netlablaw04.VecExamples'. -/
def vecExamplesUptoCard : Claim7 := { stood := { row := vecExamplesUptoRow, standIns := [], harness := (true, "58919f1e3de3997d63138bd9f894277e372e0c32b529c655fcde6967be374f91"), looks := false }, kinds := [], alts := [], laidByText := true, laidKinds := [.data, .data, .data, .data], laidTests := true, laidLooks := .later }
def VecExamplesUptoCardSaid : Prop := Claim7.holds Tryz.pinned (.plain (OpenSpec.upto vecExamplesSpec)) vecExamplesUptoCard

/-- THE SECOND FORM's CARD OF 'netlablaw04.VecBasicsMatch'. -/
def vecBasicsMatchUptoCard : Claim7 := { stood := { row := vecBasicsMatchUptoRow, standIns := [], harness := (true, "58919f1e3de3997d63138bd9f894277e372e0c32b529c655fcde6967be374f91"), looks := false }, kinds := [], alts := [], laidByText := true, laidKinds := [.data, .data, .data, .data], laidTests := true, laidLooks := .later }
def VecBasicsMatchUptoCardSaid : Prop := Claim7.holds Tryz.pinned (.plain (OpenSpec.upto vecBasicsMatchSpec)) vecBasicsMatchUptoCard

/-- THE SECOND FORM's CARD OF 'netlablaw04.VecStructureMatches'. -/
def vecStructureMatchesUptoCard : Claim7 := { stood := { row := vecStructureMatchesUptoRow, standIns := [], harness := (true, "58919f1e3de3997d63138bd9f894277e372e0c32b529c655fcde6967be374f91"), looks := false }, kinds := [], alts := [], laidByText := true, laidKinds := [.data, .data, .data, .data], laidTests := true, laidLooks := .later }
def VecStructureMatchesUptoCardSaid : Prop := Claim7.holds Tryz.pinned (.plain (OpenSpec.upto vecStructureMatchesSpec)) vecStructureMatchesUptoCard

/-- THE SECOND FORM's CARD OF 'netlablaw04.VecIntegers'. -/
def vecIntegersUptoCard : Claim7 := { stood := { row := vecIntegersUptoRow, standIns := [], harness := (true, "58919f1e3de3997d63138bd9f894277e372e0c32b529c655fcde6967be374f91"), looks := false }, kinds := [], alts := [], laidByText := true, laidKinds := [.data, .data, .data, .data], laidTests := true, laidLooks := .later }
def VecIntegersUptoCardSaid : Prop := Claim7.holds Tryz.pinned (.plain (OpenSpec.upto vecIntegersSpec)) vecIntegersUptoCard

/-- THE SECOND FORM's CARD OF 'netlablaw04.VecUnknown'. -/
def vecUnknownUptoCard : Claim7 := { stood := { row := vecUnknownUptoRow, standIns := [], harness := (true, "58919f1e3de3997d63138bd9f894277e372e0c32b529c655fcde6967be374f91"), looks := false }, kinds := [], alts := [], laidByText := true, laidKinds := [.data, .data, .data, .data], laidTests := true, laidLooks := .later }
def VecUnknownUptoCardSaid : Prop := Claim7.holds Tryz.pinned (.plain (OpenSpec.upto vecUnknownSpec)) vecUnknownUptoCard

/-- THE SECOND FORM's CARD OF 'netlablaw04.VecMatches'. -/
def vecMatchesUptoCard : Claim7 := { stood := { row := vecMatchesUptoRow, standIns := [], harness := (true, "58919f1e3de3997d63138bd9f894277e372e0c32b529c655fcde6967be374f91"), looks := false }, kinds := [], alts := [], laidByText := true, laidKinds := [.data, .data, .data, .data], laidTests := true, laidLooks := .later }
def VecMatchesUptoCardSaid : Prop := Claim7.holds Tryz.pinned (.plain (OpenSpec.upto vecMatchesSpec)) vecMatchesUptoCard
end Rows
end Go.Proofs.YtdgbdkfoeaollaaGreatDoor
