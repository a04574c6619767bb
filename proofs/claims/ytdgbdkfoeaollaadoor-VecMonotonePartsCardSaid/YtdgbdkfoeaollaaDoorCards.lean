/-
  DERIVED. GIVEN WITH THE SEED: THE CARDS: each row of YtdgbdkfoeaollaaDoorRows.lean that lists a variable, with what it lists TIED to the program's text (the seventh form; the later family's looks); each row that meets fmt, with fmt's text TOLD by the authors' own Lean function (tested against real Go, not proved from fmt's source: count such statements apart). THE CARD IS WHAT COUNTS. Prove the row's statement (the work); the ties are given (YtdgbdkfoeaollaaDoorTie.lean); close each card by the builder's one call (the guide's Derived/Test/ToyasCard.lean, 'card_holds'). Laid BY PROGRAM, IN A SANDBOX (cutbox-door.mjs). By AI agents, Wed Nov 11 2026. No macro, syntax, notation, axiom, sorry.
-/
import Derived.Test.YtdgbdkfoeaollaaDoorRows
import GoSem.ClaimSeven
namespace Go.Proofs.YtdgbdkfoeaollaaDoor
namespace Rows

/-- THE TIED CARD OF 'netlablaw04.VecCondMatches'. -/
def vecCondMatchesCard : Claim7 := { stood := { row := vecCondMatchesRow, standIns := [], harness := (true, "c29d7044df5379dce6b4aaec5582b4a1f80c5a80f737db045df9e08b099de3c3"), looks := false }, kinds := [], alts := [], laidByText := true, laidKinds := [.data, .data, .data, .data], laidTests := true, laidLooks := .later }
def VecCondMatchesCardSaid : Prop := Claim7.holds Tryd.pinned (.plain (OpenSpec.ofChange vecCondMatchesSpec)) vecCondMatchesCard

/-- THE TIED CARD OF 'netlablaw04.VecStructure'. -/
def vecStructureCard : Claim7 := { stood := { row := vecStructureRow, standIns := [], harness := (true, "c29d7044df5379dce6b4aaec5582b4a1f80c5a80f737db045df9e08b099de3c3"), looks := false }, kinds := [], alts := [], laidByText := true, laidKinds := [.data, .data, .data, .data], laidTests := true, laidLooks := .later }
def VecStructureCardSaid : Prop := Claim7.holds Tryd.pinned (.plain (OpenSpec.ofChange vecStructureSpec)) vecStructureCard

/-- THE TIED CARD OF 'netlablaw04.VecCases'. -/
def vecCasesCard : Claim7 := { stood := { row := vecCasesRow, standIns := [], harness := (true, "c29d7044df5379dce6b4aaec5582b4a1f80c5a80f737db045df9e08b099de3c3"), looks := false }, kinds := [], alts := [], laidByText := true, laidKinds := [.data, .data, .data, .data], laidTests := true, laidLooks := .later }
def VecCasesCardSaid : Prop := Claim7.holds Tryd.pinned (.plain (OpenSpec.ofChange vecCasesSpec)) vecCasesCard

/-- THE TIED CARD OF 'netlablaw04.VecMonotoneParts'. -/
def vecMonotonePartsCard : Claim7 := { stood := { row := vecMonotonePartsRow, standIns := [], harness := (true, "c29d7044df5379dce6b4aaec5582b4a1f80c5a80f737db045df9e08b099de3c3"), looks := false }, kinds := [], alts := [], laidByText := true, laidKinds := [.data, .data, .data, .data], laidTests := true, laidLooks := .later }
def VecMonotonePartsCardSaid : Prop := Claim7.holds Tryd.pinned (.plain (OpenSpec.ofChange vecMonotonePartsSpec)) vecMonotonePartsCard

/-- THE SECOND FORM's CARD OF 'netlablaw04.VecCondMatches'. -/
def vecCondMatchesUptoCard : Claim7 := { stood := { row := vecCondMatchesUptoRow, standIns := [], harness := (true, "c29d7044df5379dce6b4aaec5582b4a1f80c5a80f737db045df9e08b099de3c3"), looks := false }, kinds := [], alts := [], laidByText := true, laidKinds := [.data, .data, .data, .data], laidTests := true, laidLooks := .later }
def VecCondMatchesUptoCardSaid : Prop := Claim7.holds Tryd.pinned (.plain (OpenSpec.upto vecCondMatchesSpec)) vecCondMatchesUptoCard

/-- THE SECOND FORM's CARD OF 'netlablaw04.VecStructure'. -/
def vecStructureUptoCard : Claim7 := { stood := { row := vecStructureUptoRow, standIns := [], harness := (true, "c29d7044df5379dce6b4aaec5582b4a1f80c5a80f737db045df9e08b099de3c3"), looks := false }, kinds := [], alts := [], laidByText := true, laidKinds := [.data, .data, .data, .data], laidTests := true, laidLooks := .later }
def VecStructureUptoCardSaid : Prop := Claim7.holds Tryd.pinned (.plain (OpenSpec.upto vecStructureSpec)) vecStructureUptoCard

/-- THE SECOND FORM's CARD OF 'netlablaw04.VecCases'. -/
def vecCasesUptoCard : Claim7 := { stood := { row := vecCasesUptoRow, standIns := [], harness := (true, "c29d7044df5379dce6b4aaec5582b4a1f80c5a80f737db045df9e08b099de3c3"), looks := false }, kinds := [], alts := [], laidByText := true, laidKinds := [.data, .data, .data, .data], laidTests := true, laidLooks := .later }
def VecCasesUptoCardSaid : Prop := Claim7.holds Tryd.pinned (.plain (OpenSpec.upto vecCasesSpec)) vecCasesUptoCard

/-- THE SECOND FORM's CARD OF 'netlablaw04.VecMonotoneParts'. -/
def vecMonotonePartsUptoCard : Claim7 := { stood := { row := vecMonotonePartsUptoRow, standIns := [], harness := (true, "c29d7044df5379dce6b4aaec5582b4a1f80c5a80f737db045df9e08b099de3c3"), looks := false }, kinds := [], alts := [], laidByText := true, laidKinds := [.data, .data, .data, .data], laidTests := true, laidLooks := .later }
def VecMonotonePartsUptoCardSaid : Prop := Claim7.holds Tryd.pinned (.plain (OpenSpec.upto vecMonotonePartsSpec)) vecMonotonePartsUptoCard
end Rows
end Go.Proofs.YtdgbdkfoeaollaaDoor
