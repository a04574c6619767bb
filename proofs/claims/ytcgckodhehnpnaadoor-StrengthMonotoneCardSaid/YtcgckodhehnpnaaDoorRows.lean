/-
  NARROWER THAN 'FOR EVERY INPUT', by the rows' own cells (each row's printed sentence says how): StrengthDriveMatches: laid · StrengthParseMatches: laid · StrengthAlgebra: laid · StrengthDominance: laid · StrengthNames: laid · StrengthMatches: laid · StrengthExamples: laid · StrengthElements: laid · StrengthDrivers: laid · StrengthMonotone: laid.
  DERIVED. THE GIVEN ROWS OF THIS SEAT. 10 by the template 'for every input the law returns true; each argument reads behind the call as it read before'; 0 by the template 'total and deterministic' (their statements: YtcgckodhehnpnaaDoorTotals.lean).
  GIVEN WITH THE SEED: the statements are not yours to turn. If you find one false, say at which input.
  Laid BY PROGRAM, IN A SANDBOX (cutbox-rows.mjs): the forced cells as the released guide's own fill.sh prints them over the translation 2d89b008e8000fb5… (all of the seat's roots in one cut). By AI agents, Wed Nov 11 2026. No macro, syntax, notation, axiom, sorry.
-/
import Derived.Test.YtcgckodhehnpnaaDoorChecked
import GoSem.Claim
import GoSem.ClaimJoined
import GoSem.ClaimMapViews
import Derived.JoinedTies
import Derived.KernelRfl
namespace Go.Proofs.YtcgckodhehnpnaaDoor
/- THE CELL 'sum', in the pinned program and in every row, IS THE sha256 OF THE DUMP (.gsa) THAT YtcgckodhehnpnaaDoorProg.lean LOADS. Nothing in Lean hashes anything: it is a label: what it is worth is what the hold of that sum in a sandbox is worth. -/
noncomputable def Tryd.pinned : Pinned := { name := "ytcgckodhehnpnaadoor", sum := "2d89b008e8000fb53170495e3dc0d045d4349d89e4ac4989ac04d31667d6678d", checked := Tryd.checked }
namespace Rows
def none {H : Type} : Left H := { results := [], args := [] }

/- WHAT THE LISTED PACKAGE-LEVEL VARIABLES READ AS WHEN THE CALL BEGINS. Each datum BY PROGRAM (the guide's laid-datum.mjs) off the statement by which the dump's own 'gosem.cut.vars' lays the variable. In a bare row this is a premise. The card (YtcgckodhehnpnaaDoorCards.lean) ties it to the program's text. -/
def laid_netlab_strength_names {H : Type} : DataW H := .agg [.lit (.string [104, 105, 103, 104, 122]), .lit (.string [115, 109, 97, 108, 108]), .lit (.string [109, 101, 100, 105, 117, 109]), .lit (.string [119, 101, 97, 107]), .lit (.string [108, 97, 114, 103, 101]), .lit (.string [112, 117, 108, 108]), .lit (.string [115, 116, 114, 111, 110, 103]), .lit (.string [115, 117, 112, 112, 108, 121])]

/-- 'netlablaw02.StrengthDriveMatches': WHATEVER THE INPUT: true; the input reads as it did. -/
def strengthDriveMatchesSpec : ChangeSpec := { name := "strengthDriveMatches", fn := fun _ => fun
  | [d1, d2, d3] => { results := [.lit (.bool true)], args := [d1, d2, d3] }
  | _ => none }
def strengthDriveMatchesRow : OpenClaim := { program := "ytcgckodhehnpnaadoor", sum := "2d89b008e8000fb53170495e3dc0d045d4349d89e4ac4989ac04d31667d6678d", func := "netlab/netlablaw02.StrengthDriveMatches", spec := "strengthDriveMatches", named := ["netlab/strength.names"], apart := false, laid := [("netlab/strength.names", laid_netlab_strength_names)] }
def StrengthDriveMatchesSaid : Prop := strengthDriveMatchesRow.holds Tryd.pinned (OpenSpec.ofChange strengthDriveMatchesSpec)

/-- ITS FALSE NEIGHBOUR: 'it returns false'. Refute it at one input. -/
def strengthDriveMatchesWrong : ChangeSpec := { name := "strengthDriveMatches", fn := fun _ => fun
  | [d1, d2, d3] => { results := [.lit (.bool false)], args := [d1, d2, d3] }
  | _ => none }
def StrengthDriveMatchesWrongFalsely : Prop := strengthDriveMatchesRow.holds Tryd.pinned (OpenSpec.ofChange strengthDriveMatchesWrong)

/-- 'netlablaw02.StrengthParseMatches': WHATEVER THE INPUT: true; the input reads as it did. -/
def strengthParseMatchesSpec : ChangeSpec := { name := "strengthParseMatches", fn := fun _ => fun
  | [d] => { results := [.lit (.bool true)], args := [d] }
  | _ => none }
def strengthParseMatchesRow : OpenClaim := { program := "ytcgckodhehnpnaadoor", sum := "2d89b008e8000fb53170495e3dc0d045d4349d89e4ac4989ac04d31667d6678d", func := "netlab/netlablaw02.StrengthParseMatches", spec := "strengthParseMatches", named := ["netlab/strength.names"], apart := false, laid := [("netlab/strength.names", laid_netlab_strength_names)] }
def StrengthParseMatchesSaid : Prop := strengthParseMatchesRow.holds Tryd.pinned (OpenSpec.ofChange strengthParseMatchesSpec)

/-- ITS FALSE NEIGHBOUR: 'it returns false'. Refute it at one input. -/
def strengthParseMatchesWrong : ChangeSpec := { name := "strengthParseMatches", fn := fun _ => fun
  | [d] => { results := [.lit (.bool false)], args := [d] }
  | _ => none }
def StrengthParseMatchesWrongFalsely : Prop := strengthParseMatchesRow.holds Tryd.pinned (OpenSpec.ofChange strengthParseMatchesWrong)

/-- 'netlablaw02.StrengthAlgebra': WHATEVER THE INPUT: true; the input reads as it did. -/
def strengthAlgebraSpec : ChangeSpec := { name := "strengthAlgebra", fn := fun _ => fun
  | [d1, d2, d3] => { results := [.lit (.bool true)], args := [d1, d2, d3] }
  | _ => none }
def strengthAlgebraRow : OpenClaim := { program := "ytcgckodhehnpnaadoor", sum := "2d89b008e8000fb53170495e3dc0d045d4349d89e4ac4989ac04d31667d6678d", func := "netlab/netlablaw02.StrengthAlgebra", spec := "strengthAlgebra", named := ["netlab/strength.names"], apart := false, laid := [("netlab/strength.names", laid_netlab_strength_names)] }
def StrengthAlgebraSaid : Prop := strengthAlgebraRow.holds Tryd.pinned (OpenSpec.ofChange strengthAlgebraSpec)

/-- ITS FALSE NEIGHBOUR: 'it returns false'. Refute it at one input. -/
def strengthAlgebraWrong : ChangeSpec := { name := "strengthAlgebra", fn := fun _ => fun
  | [d1, d2, d3] => { results := [.lit (.bool false)], args := [d1, d2, d3] }
  | _ => none }
def StrengthAlgebraWrongFalsely : Prop := strengthAlgebraRow.holds Tryd.pinned (OpenSpec.ofChange strengthAlgebraWrong)

/-- 'netlablaw02.StrengthDominance': WHATEVER THE INPUT: true; the input reads as it did. -/
def strengthDominanceSpec : ChangeSpec := { name := "strengthDominance", fn := fun _ => fun
  | [d1, d2] => { results := [.lit (.bool true)], args := [d1, d2] }
  | _ => none }
def strengthDominanceRow : OpenClaim := { program := "ytcgckodhehnpnaadoor", sum := "2d89b008e8000fb53170495e3dc0d045d4349d89e4ac4989ac04d31667d6678d", func := "netlab/netlablaw02.StrengthDominance", spec := "strengthDominance", named := ["netlab/strength.names"], apart := false, laid := [("netlab/strength.names", laid_netlab_strength_names)] }
def StrengthDominanceSaid : Prop := strengthDominanceRow.holds Tryd.pinned (OpenSpec.ofChange strengthDominanceSpec)

/-- ITS FALSE NEIGHBOUR: 'it returns false'. Refute it at one input. -/
def strengthDominanceWrong : ChangeSpec := { name := "strengthDominance", fn := fun _ => fun
  | [d1, d2] => { results := [.lit (.bool false)], args := [d1, d2] }
  | _ => none }
def StrengthDominanceWrongFalsely : Prop := strengthDominanceRow.holds Tryd.pinned (OpenSpec.ofChange strengthDominanceWrong)

/-- 'netlablaw02.StrengthNames': WHATEVER THE INPUT: true; the input reads as it did. -/
def strengthNamesSpec : ChangeSpec := { name := "strengthNames", fn := fun _ => fun
  | [d1, d2, d3] => { results := [.lit (.bool true)], args := [d1, d2, d3] }
  | _ => none }
def strengthNamesRow : OpenClaim := { program := "ytcgckodhehnpnaadoor", sum := "2d89b008e8000fb53170495e3dc0d045d4349d89e4ac4989ac04d31667d6678d", func := "netlab/netlablaw02.StrengthNames", spec := "strengthNames", named := ["netlab/strength.names"], apart := false, laid := [("netlab/strength.names", laid_netlab_strength_names)] }
def StrengthNamesSaid : Prop := strengthNamesRow.holds Tryd.pinned (OpenSpec.ofChange strengthNamesSpec)

/-- ITS FALSE NEIGHBOUR: 'it returns false'. Refute it at one input. -/
def strengthNamesWrong : ChangeSpec := { name := "strengthNames", fn := fun _ => fun
  | [d1, d2, d3] => { results := [.lit (.bool false)], args := [d1, d2, d3] }
  | _ => none }
def StrengthNamesWrongFalsely : Prop := strengthNamesRow.holds Tryd.pinned (OpenSpec.ofChange strengthNamesWrong)

/-- 'netlablaw02.StrengthMatches': WHATEVER THE INPUT: true; the input reads as it did. -/
def strengthMatchesSpec : ChangeSpec := { name := "strengthMatches", fn := fun _ => fun
  | [d1, d2] => { results := [.lit (.bool true)], args := [d1, d2] }
  | _ => none }
def strengthMatchesRow : OpenClaim := { program := "ytcgckodhehnpnaadoor", sum := "2d89b008e8000fb53170495e3dc0d045d4349d89e4ac4989ac04d31667d6678d", func := "netlab/netlablaw02.StrengthMatches", spec := "strengthMatches", named := ["netlab/strength.names"], apart := false, laid := [("netlab/strength.names", laid_netlab_strength_names)] }
def StrengthMatchesSaid : Prop := strengthMatchesRow.holds Tryd.pinned (OpenSpec.ofChange strengthMatchesSpec)

/-- ITS FALSE NEIGHBOUR: 'it returns false'. Refute it at one input. -/
def strengthMatchesWrong : ChangeSpec := { name := "strengthMatches", fn := fun _ => fun
  | [d1, d2] => { results := [.lit (.bool false)], args := [d1, d2] }
  | _ => none }
def StrengthMatchesWrongFalsely : Prop := strengthMatchesRow.holds Tryd.pinned (OpenSpec.ofChange strengthMatchesWrong)

/-- 'netlablaw02.StrengthExamples': WHATEVER THE INPUT: true; the input reads as it did. -/
def strengthExamplesSpec : ChangeSpec := { name := "strengthExamples", fn := fun _ => fun
  | [] => { results := [.lit (.bool true)], args := [] }
  | _ => none }
def strengthExamplesRow : OpenClaim := { program := "ytcgckodhehnpnaadoor", sum := "2d89b008e8000fb53170495e3dc0d045d4349d89e4ac4989ac04d31667d6678d", func := "netlab/netlablaw02.StrengthExamples", spec := "strengthExamples", named := ["netlab/strength.names"], apart := false, laid := [("netlab/strength.names", laid_netlab_strength_names)] }
def StrengthExamplesSaid : Prop := strengthExamplesRow.holds Tryd.pinned (OpenSpec.ofChange strengthExamplesSpec)

/-- ITS FALSE NEIGHBOUR: 'it returns false'. Refute it at one input. -/
def strengthExamplesWrong : ChangeSpec := { name := "strengthExamples", fn := fun _ => fun
  | [] => { results := [.lit (.bool false)], args := [] }
  | _ => none }
def StrengthExamplesWrongFalsely : Prop := strengthExamplesRow.holds Tryd.pinned (OpenSpec.ofChange strengthExamplesWrong)

/-- 'netlablaw02.StrengthElements': WHATEVER THE INPUT: true; the input reads as it did. -/
def strengthElementsSpec : ChangeSpec := { name := "strengthElements", fn := fun _ => fun
  | [d1, d2] => { results := [.lit (.bool true)], args := [d1, d2] }
  | _ => none }
def strengthElementsRow : OpenClaim := { program := "ytcgckodhehnpnaadoor", sum := "2d89b008e8000fb53170495e3dc0d045d4349d89e4ac4989ac04d31667d6678d", func := "netlab/netlablaw02.StrengthElements", spec := "strengthElements", named := ["netlab/strength.names"], apart := false, laid := [("netlab/strength.names", laid_netlab_strength_names)] }
def StrengthElementsSaid : Prop := strengthElementsRow.holds Tryd.pinned (OpenSpec.ofChange strengthElementsSpec)

/-- ITS FALSE NEIGHBOUR: 'it returns false'. Refute it at one input. -/
def strengthElementsWrong : ChangeSpec := { name := "strengthElements", fn := fun _ => fun
  | [d1, d2] => { results := [.lit (.bool false)], args := [d1, d2] }
  | _ => none }
def StrengthElementsWrongFalsely : Prop := strengthElementsRow.holds Tryd.pinned (OpenSpec.ofChange strengthElementsWrong)

/-- 'netlablaw02.StrengthDrivers': WHATEVER THE INPUT: true; the input reads as it did. -/
def strengthDriversSpec : ChangeSpec := { name := "strengthDrivers", fn := fun _ => fun
  | [d1, d2, d3] => { results := [.lit (.bool true)], args := [d1, d2, d3] }
  | _ => none }
def strengthDriversRow : OpenClaim := { program := "ytcgckodhehnpnaadoor", sum := "2d89b008e8000fb53170495e3dc0d045d4349d89e4ac4989ac04d31667d6678d", func := "netlab/netlablaw02.StrengthDrivers", spec := "strengthDrivers", named := ["netlab/strength.names"], apart := false, laid := [("netlab/strength.names", laid_netlab_strength_names)] }
def StrengthDriversSaid : Prop := strengthDriversRow.holds Tryd.pinned (OpenSpec.ofChange strengthDriversSpec)

/-- ITS FALSE NEIGHBOUR: 'it returns false'. Refute it at one input. -/
def strengthDriversWrong : ChangeSpec := { name := "strengthDrivers", fn := fun _ => fun
  | [d1, d2, d3] => { results := [.lit (.bool false)], args := [d1, d2, d3] }
  | _ => none }
def StrengthDriversWrongFalsely : Prop := strengthDriversRow.holds Tryd.pinned (OpenSpec.ofChange strengthDriversWrong)

/-- 'netlablaw02.StrengthMonotone': WHATEVER THE INPUT: true; the input reads as it did. -/
def strengthMonotoneSpec : ChangeSpec := { name := "strengthMonotone", fn := fun _ => fun
  | [d1, d2, d3, d4] => { results := [.lit (.bool true)], args := [d1, d2, d3, d4] }
  | _ => none }
def strengthMonotoneRow : OpenClaim := { program := "ytcgckodhehnpnaadoor", sum := "2d89b008e8000fb53170495e3dc0d045d4349d89e4ac4989ac04d31667d6678d", func := "netlab/netlablaw02.StrengthMonotone", spec := "strengthMonotone", named := ["netlab/strength.names"], apart := false, laid := [("netlab/strength.names", laid_netlab_strength_names)] }
def StrengthMonotoneSaid : Prop := strengthMonotoneRow.holds Tryd.pinned (OpenSpec.ofChange strengthMonotoneSpec)

/-- ITS FALSE NEIGHBOUR: 'it returns false'. Refute it at one input. -/
def strengthMonotoneWrong : ChangeSpec := { name := "strengthMonotone", fn := fun _ => fun
  | [d1, d2, d3, d4] => { results := [.lit (.bool false)], args := [d1, d2, d3, d4] }
  | _ => none }
def StrengthMonotoneWrongFalsely : Prop := strengthMonotoneRow.holds Tryd.pinned (OpenSpec.ofChange strengthMonotoneWrong)

/- THE SECOND FORM. 'bulk': how many values and letters a reading holds, each counted each time it is reached (what is shared counts as often as it is met; a slice's spare places count too). A statement '..UptoSaid' is the law's where the arguments, and the package variables that the reading takes, are together of bulk at most 1048576: NARROWER than '..Said'. Prove '..Said' where nothing that the law and all that it calls make is longer than what came in: it says more and counts as full. Else prove '..UptoSaid'. A law counts once. -/
mutual
def uptoBulk {H : Type} : DataW H → Nat
  | .lit (.string bytes) => bytes.length + 1
  | .lit _ => 1
  | .nil => 1
  | .ptr d => uptoBulk d + 1
  | .slice elems spare => uptoBulkAll elems + uptoBulkAll spare + 1
  | .agg parts => uptoBulkAll parts + 1
  | .iface _ d => uptoBulk d + 1
  | .map entries => uptoBulkEntries entries + 1
  | .held _ => 1
def uptoBulkAll {H : Type} : List (DataW H) → Nat
  | [] => 0
  | d :: r => uptoBulk d + uptoBulkAll r
def uptoBulkEntries {H : Type} : List (Lit × DataW H) → Nat
  | [] => 0
  | x :: r => uptoBulkEntry x + uptoBulkEntries r
def uptoBulkEntry {H : Type} : Lit × DataW H → Nat
  | (.string bytes, d) => bytes.length + uptoBulk d + 1
  | (_, d) => uptoBulk d + 1
 end
def uptoSmall : (H : Type) → List (DataW H) → Bool := fun _ ds => decide (uptoBulkAll ds ≤ 1048576)
def OpenSpec.upto (s : _root_.Go.ChangeSpec) : _root_.Go.OpenSpec := { _root_.Go.OpenSpec.ofChange s with cond := some uptoSmall }

/-- 'netlablaw02.StrengthDriveMatches', WHERE WHAT IT READS IS OF BULK AT MOST 1048576: true; the input reads as it did. -/
def strengthDriveMatchesUptoRow : OpenClaim := { program := "ytcgckodhehnpnaadoor", sum := "2d89b008e8000fb53170495e3dc0d045d4349d89e4ac4989ac04d31667d6678d", func := "netlab/netlablaw02.StrengthDriveMatches", spec := "strengthDriveMatches", named := ["netlab/strength.names"], apart := false, laid := [("netlab/strength.names", laid_netlab_strength_names)], narrowed := true }
def StrengthDriveMatchesUptoSaid : Prop := strengthDriveMatchesUptoRow.holds Tryd.pinned (OpenSpec.upto strengthDriveMatchesSpec)

/-- 'netlablaw02.StrengthParseMatches', WHERE WHAT IT READS IS OF BULK AT MOST 1048576: true; the input reads as it did. -/
def strengthParseMatchesUptoRow : OpenClaim := { program := "ytcgckodhehnpnaadoor", sum := "2d89b008e8000fb53170495e3dc0d045d4349d89e4ac4989ac04d31667d6678d", func := "netlab/netlablaw02.StrengthParseMatches", spec := "strengthParseMatches", named := ["netlab/strength.names"], apart := false, laid := [("netlab/strength.names", laid_netlab_strength_names)], narrowed := true }
def StrengthParseMatchesUptoSaid : Prop := strengthParseMatchesUptoRow.holds Tryd.pinned (OpenSpec.upto strengthParseMatchesSpec)

/-- 'netlablaw02.StrengthAlgebra', WHERE WHAT IT READS IS OF BULK AT MOST 1048576: true; the input reads as it did. -/
def strengthAlgebraUptoRow : OpenClaim := { program := "ytcgckodhehnpnaadoor", sum := "2d89b008e8000fb53170495e3dc0d045d4349d89e4ac4989ac04d31667d6678d", func := "netlab/netlablaw02.StrengthAlgebra", spec := "strengthAlgebra", named := ["netlab/strength.names"], apart := false, laid := [("netlab/strength.names", laid_netlab_strength_names)], narrowed := true }
def StrengthAlgebraUptoSaid : Prop := strengthAlgebraUptoRow.holds Tryd.pinned (OpenSpec.upto strengthAlgebraSpec)

/-- 'netlablaw02.StrengthDominance', WHERE WHAT IT READS IS OF BULK AT MOST 1048576: true; the input reads as it did. -/
def strengthDominanceUptoRow : OpenClaim := { program := "ytcgckodhehnpnaadoor", sum := "2d89b008e8000fb53170495e3dc0d045d4349d89e4ac4989ac04d31667d6678d", func := "netlab/netlablaw02.StrengthDominance", spec := "strengthDominance", named := ["netlab/strength.names"], apart := false, laid := [("netlab/strength.names", laid_netlab_strength_names)], narrowed := true }
def StrengthDominanceUptoSaid : Prop := strengthDominanceUptoRow.holds Tryd.pinned (OpenSpec.upto strengthDominanceSpec)

/-- 'netlablaw02.StrengthNames', WHERE WHAT IT READS IS OF BULK AT MOST 1048576: true; the input reads as it did. -/
def strengthNamesUptoRow : OpenClaim := { program := "ytcgckodhehnpnaadoor", sum := "2d89b008e8000fb53170495e3dc0d045d4349d89e4ac4989ac04d31667d6678d", func := "netlab/netlablaw02.StrengthNames", spec := "strengthNames", named := ["netlab/strength.names"], apart := false, laid := [("netlab/strength.names", laid_netlab_strength_names)], narrowed := true }
def StrengthNamesUptoSaid : Prop := strengthNamesUptoRow.holds Tryd.pinned (OpenSpec.upto strengthNamesSpec)

/-- 'netlablaw02.StrengthMatches', WHERE WHAT IT READS IS OF BULK AT MOST 1048576: true; the input reads as it did. -/
def strengthMatchesUptoRow : OpenClaim := { program := "ytcgckodhehnpnaadoor", sum := "2d89b008e8000fb53170495e3dc0d045d4349d89e4ac4989ac04d31667d6678d", func := "netlab/netlablaw02.StrengthMatches", spec := "strengthMatches", named := ["netlab/strength.names"], apart := false, laid := [("netlab/strength.names", laid_netlab_strength_names)], narrowed := true }
def StrengthMatchesUptoSaid : Prop := strengthMatchesUptoRow.holds Tryd.pinned (OpenSpec.upto strengthMatchesSpec)

/-- 'netlablaw02.StrengthExamples', WHERE WHAT IT READS IS OF BULK AT MOST 1048576: true; the input reads as it did. -/
def strengthExamplesUptoRow : OpenClaim := { program := "ytcgckodhehnpnaadoor", sum := "2d89b008e8000fb53170495e3dc0d045d4349d89e4ac4989ac04d31667d6678d", func := "netlab/netlablaw02.StrengthExamples", spec := "strengthExamples", named := ["netlab/strength.names"], apart := false, laid := [("netlab/strength.names", laid_netlab_strength_names)], narrowed := true }
def StrengthExamplesUptoSaid : Prop := strengthExamplesUptoRow.holds Tryd.pinned (OpenSpec.upto strengthExamplesSpec)

/-- 'netlablaw02.StrengthElements', WHERE WHAT IT READS IS OF BULK AT MOST 1048576: true; the input reads as it did. -/
def strengthElementsUptoRow : OpenClaim := { program := "ytcgckodhehnpnaadoor", sum := "2d89b008e8000fb53170495e3dc0d045d4349d89e4ac4989ac04d31667d6678d", func := "netlab/netlablaw02.StrengthElements", spec := "strengthElements", named := ["netlab/strength.names"], apart := false, laid := [("netlab/strength.names", laid_netlab_strength_names)], narrowed := true }
def StrengthElementsUptoSaid : Prop := strengthElementsUptoRow.holds Tryd.pinned (OpenSpec.upto strengthElementsSpec)

/-- 'netlablaw02.StrengthDrivers', WHERE WHAT IT READS IS OF BULK AT MOST 1048576: true; the input reads as it did. -/
def strengthDriversUptoRow : OpenClaim := { program := "ytcgckodhehnpnaadoor", sum := "2d89b008e8000fb53170495e3dc0d045d4349d89e4ac4989ac04d31667d6678d", func := "netlab/netlablaw02.StrengthDrivers", spec := "strengthDrivers", named := ["netlab/strength.names"], apart := false, laid := [("netlab/strength.names", laid_netlab_strength_names)], narrowed := true }
def StrengthDriversUptoSaid : Prop := strengthDriversUptoRow.holds Tryd.pinned (OpenSpec.upto strengthDriversSpec)

/-- 'netlablaw02.StrengthMonotone', WHERE WHAT IT READS IS OF BULK AT MOST 1048576: true; the input reads as it did. -/
def strengthMonotoneUptoRow : OpenClaim := { program := "ytcgckodhehnpnaadoor", sum := "2d89b008e8000fb53170495e3dc0d045d4349d89e4ac4989ac04d31667d6678d", func := "netlab/netlablaw02.StrengthMonotone", spec := "strengthMonotone", named := ["netlab/strength.names"], apart := false, laid := [("netlab/strength.names", laid_netlab_strength_names)], narrowed := true }
def StrengthMonotoneUptoSaid : Prop := strengthMonotoneUptoRow.holds Tryd.pinned (OpenSpec.upto strengthMonotoneSpec)

end Rows
end Go.Proofs.YtcgckodhehnpnaaDoor
