/-
  NARROWER THAN 'FOR EVERY INPUT', by the rows' own cells (each row's printed sentence says how): VecCondMatches: laid · VecStructure: laid · VecCases: laid · VecMonotoneParts: laid.
  DERIVED. THE GIVEN ROWS OF THIS SEAT. 4 by the template 'for every input the law returns true; each argument reads behind the call as it read before'; 0 by the template 'total and deterministic' (their statements: YtdgbdkfoeaollaaDoorTotals.lean).
  GIVEN WITH THE SEED: the statements are not yours to turn. If you find one false, say at which input.
  Laid BY PROGRAM, IN A SANDBOX (cutbox-rows.mjs): the forced cells as the released guide's own fill.sh prints them over the translation 800e443b96e8559e… (all of the seat's roots in one cut). By AI agents, Wed Nov 11 2026. No macro, syntax, notation, axiom, sorry.
-/
import Derived.Test.YtdgbdkfoeaollaaDoorChecked
import GoSem.Claim
import GoSem.ClaimJoined
import GoSem.ClaimMapViews
import Derived.JoinedTies
import Derived.KernelRfl
namespace Go.Proofs.YtdgbdkfoeaollaaDoor
/- THE CELL 'sum', in the pinned program and in every row, IS THE sha256 OF THE DUMP (.gsa) THAT YtdgbdkfoeaollaaDoorProg.lean LOADS. Nothing in Lean hashes anything: it is a label: what it is worth is what the hold of that sum in a sandbox is worth. -/
noncomputable def Tryd.pinned : Pinned := { name := "ytdgbdkfoeaollaadoor", sum := "800e443b96e8559e20e8cddcbd35aa7171be07739fadc1a97b4fbfa47e85e129", checked := Tryd.checked }
namespace Rows
def none {H : Type} : Left H := { results := [], args := [] }

/- WHAT THE LISTED PACKAGE-LEVEL VARIABLES READ AS WHEN THE CALL BEGINS. Each datum BY PROGRAM (the guide's laid-datum.mjs) off the statement by which the dump's own 'gosem.cut.vars' lays the variable. In a bare row this is a premise. The card (YtdgbdkfoeaollaaDoorCards.lean) ties it to the program's text. -/
def laid_netlab_bit_ands {H : Type} : DataW H := .agg [.lit (.int .u8 0), .lit (.int .u8 0), .lit (.int .u8 0), .lit (.int .u8 0), .lit (.int .u8 0), .lit (.int .u8 1), .lit (.int .u8 2), .lit (.int .u8 2), .lit (.int .u8 0), .lit (.int .u8 2), .lit (.int .u8 2), .lit (.int .u8 2), .lit (.int .u8 0), .lit (.int .u8 2), .lit (.int .u8 2), .lit (.int .u8 2)]
def laid_netlab_bit_ors {H : Type} : DataW H := .agg [.lit (.int .u8 0), .lit (.int .u8 1), .lit (.int .u8 2), .lit (.int .u8 2), .lit (.int .u8 1), .lit (.int .u8 1), .lit (.int .u8 1), .lit (.int .u8 1), .lit (.int .u8 2), .lit (.int .u8 1), .lit (.int .u8 2), .lit (.int .u8 2), .lit (.int .u8 2), .lit (.int .u8 1), .lit (.int .u8 2), .lit (.int .u8 2)]
def laid_netlab_bit_xors {H : Type} : DataW H := .agg [.lit (.int .u8 0), .lit (.int .u8 1), .lit (.int .u8 2), .lit (.int .u8 2), .lit (.int .u8 1), .lit (.int .u8 0), .lit (.int .u8 2), .lit (.int .u8 2), .lit (.int .u8 2), .lit (.int .u8 2), .lit (.int .u8 2), .lit (.int .u8 2), .lit (.int .u8 2), .lit (.int .u8 2), .lit (.int .u8 2), .lit (.int .u8 2)]
def laid_netlab_bit_nots {H : Type} : DataW H := .agg [.lit (.int .u8 1), .lit (.int .u8 0), .lit (.int .u8 2), .lit (.int .u8 2)]

/-- 'netlablaw04.VecCondMatches': WHATEVER THE INPUT: true; the input reads as it did. -/
def vecCondMatchesSpec : ChangeSpec := { name := "vecCondMatches", fn := fun _ => fun
  | [d1, d2, d3] => { results := [.lit (.bool true)], args := [d1, d2, d3] }
  | _ => none }
def vecCondMatchesRow : OpenClaim := { program := "ytdgbdkfoeaollaadoor", sum := "800e443b96e8559e20e8cddcbd35aa7171be07739fadc1a97b4fbfa47e85e129", func := "netlab/netlablaw04.VecCondMatches", spec := "vecCondMatches", unfollowed := true, recurses := true, named := ["netlab/bit.ands", "netlab/bit.xors", "netlab/bit.nots", "netlab/bit.ors"], apart := false, laid := [("netlab/bit.ands", laid_netlab_bit_ands), ("netlab/bit.ors", laid_netlab_bit_ors), ("netlab/bit.xors", laid_netlab_bit_xors), ("netlab/bit.nots", laid_netlab_bit_nots)] }
def VecCondMatchesSaid : Prop := vecCondMatchesRow.holds Tryd.pinned (OpenSpec.ofChange vecCondMatchesSpec)

/-- ITS FALSE NEIGHBOUR: 'it returns false'. Refute it at one input. -/
def vecCondMatchesWrong : ChangeSpec := { name := "vecCondMatches", fn := fun _ => fun
  | [d1, d2, d3] => { results := [.lit (.bool false)], args := [d1, d2, d3] }
  | _ => none }
def VecCondMatchesWrongFalsely : Prop := vecCondMatchesRow.holds Tryd.pinned (OpenSpec.ofChange vecCondMatchesWrong)

/-- 'netlablaw04.VecStructure': WHATEVER THE INPUT: true; the input reads as it did. -/
def vecStructureSpec : ChangeSpec := { name := "vecStructure", fn := fun _ => fun
  | [d1, d2, d3, d4] => { results := [.lit (.bool true)], args := [d1, d2, d3, d4] }
  | _ => none }
def vecStructureRow : OpenClaim := { program := "ytdgbdkfoeaollaadoor", sum := "800e443b96e8559e20e8cddcbd35aa7171be07739fadc1a97b4fbfa47e85e129", func := "netlab/netlablaw04.VecStructure", spec := "vecStructure", unfollowed := true, recurses := true, named := ["netlab/bit.ands", "netlab/bit.xors", "netlab/bit.nots", "netlab/bit.ors"], apart := false, laid := [("netlab/bit.ands", laid_netlab_bit_ands), ("netlab/bit.ors", laid_netlab_bit_ors), ("netlab/bit.xors", laid_netlab_bit_xors), ("netlab/bit.nots", laid_netlab_bit_nots)] }
def VecStructureSaid : Prop := vecStructureRow.holds Tryd.pinned (OpenSpec.ofChange vecStructureSpec)

/-- ITS FALSE NEIGHBOUR: 'it returns false'. Refute it at one input. -/
def vecStructureWrong : ChangeSpec := { name := "vecStructure", fn := fun _ => fun
  | [d1, d2, d3, d4] => { results := [.lit (.bool false)], args := [d1, d2, d3, d4] }
  | _ => none }
def VecStructureWrongFalsely : Prop := vecStructureRow.holds Tryd.pinned (OpenSpec.ofChange vecStructureWrong)

/-- 'netlablaw04.VecCases': WHATEVER THE INPUT: true; the input reads as it did. -/
def vecCasesSpec : ChangeSpec := { name := "vecCases", fn := fun _ => fun
  | [d1, d2] => { results := [.lit (.bool true)], args := [d1, d2] }
  | _ => none }
def vecCasesRow : OpenClaim := { program := "ytdgbdkfoeaollaadoor", sum := "800e443b96e8559e20e8cddcbd35aa7171be07739fadc1a97b4fbfa47e85e129", func := "netlab/netlablaw04.VecCases", spec := "vecCases", unfollowed := true, recurses := true, named := ["netlab/bit.ands", "netlab/bit.xors", "netlab/bit.nots", "netlab/bit.ors"], apart := false, laid := [("netlab/bit.ands", laid_netlab_bit_ands), ("netlab/bit.ors", laid_netlab_bit_ors), ("netlab/bit.xors", laid_netlab_bit_xors), ("netlab/bit.nots", laid_netlab_bit_nots)] }
def VecCasesSaid : Prop := vecCasesRow.holds Tryd.pinned (OpenSpec.ofChange vecCasesSpec)

/-- ITS FALSE NEIGHBOUR: 'it returns false'. Refute it at one input. -/
def vecCasesWrong : ChangeSpec := { name := "vecCases", fn := fun _ => fun
  | [d1, d2] => { results := [.lit (.bool false)], args := [d1, d2] }
  | _ => none }
def VecCasesWrongFalsely : Prop := vecCasesRow.holds Tryd.pinned (OpenSpec.ofChange vecCasesWrong)

/-- 'netlablaw04.VecMonotoneParts': WHATEVER THE INPUT: true; the input reads as it did. -/
def vecMonotonePartsSpec : ChangeSpec := { name := "vecMonotoneParts", fn := fun _ => fun
  | [d1, d2, d3, d4, d5, d6] => { results := [.lit (.bool true)], args := [d1, d2, d3, d4, d5, d6] }
  | _ => none }
def vecMonotonePartsRow : OpenClaim := { program := "ytdgbdkfoeaollaadoor", sum := "800e443b96e8559e20e8cddcbd35aa7171be07739fadc1a97b4fbfa47e85e129", func := "netlab/netlablaw04.VecMonotoneParts", spec := "vecMonotoneParts", unfollowed := true, recurses := true, named := ["netlab/bit.ands", "netlab/bit.xors", "netlab/bit.nots", "netlab/bit.ors"], apart := false, laid := [("netlab/bit.ands", laid_netlab_bit_ands), ("netlab/bit.ors", laid_netlab_bit_ors), ("netlab/bit.xors", laid_netlab_bit_xors), ("netlab/bit.nots", laid_netlab_bit_nots)] }
def VecMonotonePartsSaid : Prop := vecMonotonePartsRow.holds Tryd.pinned (OpenSpec.ofChange vecMonotonePartsSpec)

/-- ITS FALSE NEIGHBOUR: 'it returns false'. Refute it at one input. -/
def vecMonotonePartsWrong : ChangeSpec := { name := "vecMonotoneParts", fn := fun _ => fun
  | [d1, d2, d3, d4, d5, d6] => { results := [.lit (.bool false)], args := [d1, d2, d3, d4, d5, d6] }
  | _ => none }
def VecMonotonePartsWrongFalsely : Prop := vecMonotonePartsRow.holds Tryd.pinned (OpenSpec.ofChange vecMonotonePartsWrong)

/- THE SECOND FORM. 'bulk': how many values and letters a reading holds, each counted each time it is reached (what is shared counts as often as it is met; a slice's spare places count too). A statement '..UptoSaid' is the law's where the arguments, and the package variables that the reading takes, are together of bulk at most 1048576: NARROWER than '..Said'. Prove '..Said' where nothing that the law and all that it calls make is longer than what came in: it says more and counts as full. Else prove '..UptoSaid'. A law counts once. -/
mutual
def uptoBulk {H : Type} : DataW H → Nat
  | .lit (.string bytes) => bytes.length + 1
  | .lit _ => 1
  | .nil => 1
  | .ptr d => uptoBulk d + 1
  | .slice elems spare => uptoBulkAll elems + uptoBulkAll spare + 1
  | .agg parts => uptoBulkAll parts + 1
  | .iface _ d => uptoBulk d + 1
  | .map entries => uptoBulkEntries entries + 1
  | .held _ => 1
def uptoBulkAll {H : Type} : List (DataW H) → Nat
  | [] => 0
  | d :: r => uptoBulk d + uptoBulkAll r
def uptoBulkEntries {H : Type} : List (Lit × DataW H) → Nat
  | [] => 0
  | x :: r => uptoBulkEntry x + uptoBulkEntries r
def uptoBulkEntry {H : Type} : Lit × DataW H → Nat
  | (.string bytes, d) => bytes.length + uptoBulk d + 1
  | (_, d) => uptoBulk d + 1
 end
def uptoSmall : (H : Type) → List (DataW H) → Bool := fun _ ds => decide (uptoBulkAll ds ≤ 1048576)
def OpenSpec.upto (s : _root_.Go.ChangeSpec) : _root_.Go.OpenSpec := { _root_.Go.OpenSpec.ofChange s with cond := some uptoSmall }

/-- 'netlablaw04.VecCondMatches', WHERE WHAT IT READS IS OF BULK AT MOST 1048576: true; the input reads as it did. -/
def vecCondMatchesUptoRow : OpenClaim := { program := "ytdgbdkfoeaollaadoor", sum := "800e443b96e8559e20e8cddcbd35aa7171be07739fadc1a97b4fbfa47e85e129", func := "netlab/netlablaw04.VecCondMatches", spec := "vecCondMatches", unfollowed := true, recurses := true, named := ["netlab/bit.ands", "netlab/bit.xors", "netlab/bit.nots", "netlab/bit.ors"], apart := false, laid := [("netlab/bit.ands", laid_netlab_bit_ands), ("netlab/bit.ors", laid_netlab_bit_ors), ("netlab/bit.xors", laid_netlab_bit_xors), ("netlab/bit.nots", laid_netlab_bit_nots)], narrowed := true }
def VecCondMatchesUptoSaid : Prop := vecCondMatchesUptoRow.holds Tryd.pinned (OpenSpec.upto vecCondMatchesSpec)

/-- 'netlablaw04.VecStructure', WHERE WHAT IT READS IS OF BULK AT MOST 1048576: true; the input reads as it did. -/
def vecStructureUptoRow : OpenClaim := { program := "ytdgbdkfoeaollaadoor", sum := "800e443b96e8559e20e8cddcbd35aa7171be07739fadc1a97b4fbfa47e85e129", func := "netlab/netlablaw04.VecStructure", spec := "vecStructure", unfollowed := true, recurses := true, named := ["netlab/bit.ands", "netlab/bit.xors", "netlab/bit.nots", "netlab/bit.ors"], apart := false, laid := [("netlab/bit.ands", laid_netlab_bit_ands), ("netlab/bit.ors", laid_netlab_bit_ors), ("netlab/bit.xors", laid_netlab_bit_xors), ("netlab/bit.nots", laid_netlab_bit_nots)], narrowed := true }
def VecStructureUptoSaid : Prop := vecStructureUptoRow.holds Tryd.pinned (OpenSpec.upto vecStructureSpec)

/-- 'netlablaw04.VecCases', WHERE WHAT IT READS IS OF BULK AT MOST 1048576: true; the input reads as it did. -/
def vecCasesUptoRow : OpenClaim := { program := "ytdgbdkfoeaollaadoor", sum := "800e443b96e8559e20e8cddcbd35aa7171be07739fadc1a97b4fbfa47e85e129", func := "netlab/netlablaw04.VecCases", spec := "vecCases", unfollowed := true, recurses := true, named := ["netlab/bit.ands", "netlab/bit.xors", "netlab/bit.nots", "netlab/bit.ors"], apart := false, laid := [("netlab/bit.ands", laid_netlab_bit_ands), ("netlab/bit.ors", laid_netlab_bit_ors), ("netlab/bit.xors", laid_netlab_bit_xors), ("netlab/bit.nots", laid_netlab_bit_nots)], narrowed := true }
def VecCasesUptoSaid : Prop := vecCasesUptoRow.holds Tryd.pinned (OpenSpec.upto vecCasesSpec)

/-- 'netlablaw04.VecMonotoneParts', WHERE WHAT IT READS IS OF BULK AT MOST 1048576: true; the input reads as it did. -/
def vecMonotonePartsUptoRow : OpenClaim := { program := "ytdgbdkfoeaollaadoor", sum := "800e443b96e8559e20e8cddcbd35aa7171be07739fadc1a97b4fbfa47e85e129", func := "netlab/netlablaw04.VecMonotoneParts", spec := "vecMonotoneParts", unfollowed := true, recurses := true, named := ["netlab/bit.ands", "netlab/bit.xors", "netlab/bit.nots", "netlab/bit.ors"], apart := false, laid := [("netlab/bit.ands", laid_netlab_bit_ands), ("netlab/bit.ors", laid_netlab_bit_ors), ("netlab/bit.xors", laid_netlab_bit_xors), ("netlab/bit.nots", laid_netlab_bit_nots)], narrowed := true }
def VecMonotonePartsUptoSaid : Prop := vecMonotonePartsUptoRow.holds Tryd.pinned (OpenSpec.upto vecMonotonePartsSpec)

end Rows
end Go.Proofs.YtdgbdkfoeaollaaDoor
