/-
  NARROWER THAN 'FOR EVERY INPUT', by the rows' own cells (each row's printed sentence says how): VecMonotone: laid · VecExamples: laid · VecBasicsMatch: laid · VecStructureMatches: laid · VecIntegers: laid · VecUnknown: laid · VecMatches: laid.
  DERIVED. THE GIVEN ROWS OF THIS SEAT. 7 by the template 'for every input the law returns true; each argument reads behind the call as it read before'; 0 by the template 'total and deterministic' (their statements: YtdgbdkfoeaollaaGreatDoorTotals.lean).
  GIVEN WITH THE SEED: the statements are not yours to turn. If you find one false, say at which input.
  Laid BY PROGRAM, IN A SANDBOX (cutbox-rows.mjs): the forced cells as the released guide's own fill.sh prints them over the translation 3b5984e14874a3d8… (all of the seat's roots in one cut). By AI agents, Wed Nov 11 2026. No macro, syntax, notation, axiom, sorry.
-/
import Derived.Test.YtdgbdkfoeaollaaGreatDoorChecked
import GoSem.Claim
import GoSem.ClaimJoined
import GoSem.ClaimMapViews
import Derived.JoinedTies
import Derived.KernelRfl
namespace Go.Proofs.YtdgbdkfoeaollaaGreatDoor
/- THE CELL 'sum', in the pinned program and in every row, IS THE sha256 OF THE DUMP (.gsa) THAT YtdgbdkfoeaollaaGreatDoorProg.lean LOADS. Nothing in Lean hashes anything: it is a label: what it is worth is what the hold of that sum in a sandbox is worth. -/
noncomputable def Tryz.pinned : Pinned := { name := "ytdgbdkfoeaollaagreatdoor", sum := "3b5984e14874a3d8e47554612225d5194ce805f0516d4437748ec7141ee20913", checked := Tryz.checked }
namespace Rows
def none {H : Type} : Left H := { results := [], args := [] }

/- WHAT THE LISTED PACKAGE-LEVEL VARIABLES READ AS WHEN THE CALL BEGINS. Each datum BY PROGRAM (the guide's laid-datum.mjs) off the statement by which the dump's own 'gosem.cut.vars' lays the variable. In a bare row this is a premise. The card (YtdgbdkfoeaollaaGreatDoorCards.lean) ties it to the program's text. -/
def laid_netlab_bit_ands {H : Type} : DataW H := .agg [.lit (.int .u8 0), .lit (.int .u8 0), .lit (.int .u8 0), .lit (.int .u8 0), .lit (.int .u8 0), .lit (.int .u8 1), .lit (.int .u8 2), .lit (.int .u8 2), .lit (.int .u8 0), .lit (.int .u8 2), .lit (.int .u8 2), .lit (.int .u8 2), .lit (.int .u8 0), .lit (.int .u8 2), .lit (.int .u8 2), .lit (.int .u8 2)]
def laid_netlab_bit_ors {H : Type} : DataW H := .agg [.lit (.int .u8 0), .lit (.int .u8 1), .lit (.int .u8 2), .lit (.int .u8 2), .lit (.int .u8 1), .lit (.int .u8 1), .lit (.int .u8 1), .lit (.int .u8 1), .lit (.int .u8 2), .lit (.int .u8 1), .lit (.int .u8 2), .lit (.int .u8 2), .lit (.int .u8 2), .lit (.int .u8 1), .lit (.int .u8 2), .lit (.int .u8 2)]
def laid_netlab_bit_xors {H : Type} : DataW H := .agg [.lit (.int .u8 0), .lit (.int .u8 1), .lit (.int .u8 2), .lit (.int .u8 2), .lit (.int .u8 1), .lit (.int .u8 0), .lit (.int .u8 2), .lit (.int .u8 2), .lit (.int .u8 2), .lit (.int .u8 2), .lit (.int .u8 2), .lit (.int .u8 2), .lit (.int .u8 2), .lit (.int .u8 2), .lit (.int .u8 2), .lit (.int .u8 2)]
def laid_netlab_bit_nots {H : Type} : DataW H := .agg [.lit (.int .u8 1), .lit (.int .u8 0), .lit (.int .u8 2), .lit (.int .u8 2)]

/-- 'netlablaw04.VecMonotone': WHATEVER THE INPUT: true; the input reads as it did. -/
def vecMonotoneSpec : ChangeSpec := { name := "vecMonotone", fn := fun _ => fun
  | [d1, d2, d3, d4, d5, d6] => { results := [.lit (.bool true)], args := [d1, d2, d3, d4, d5, d6] }
  | _ => none }
def vecMonotoneRow : OpenClaim := { program := "ytdgbdkfoeaollaagreatdoor", sum := "3b5984e14874a3d8e47554612225d5194ce805f0516d4437748ec7141ee20913", func := "netlab/netlablaw04.VecMonotone", spec := "vecMonotone", unfollowed := true, recurses := true, named := ["netlab/bit.ands", "netlab/bit.xors", "netlab/bit.nots", "netlab/bit.ors"], apart := false, laid := [("netlab/bit.ands", laid_netlab_bit_ands), ("netlab/bit.ors", laid_netlab_bit_ors), ("netlab/bit.xors", laid_netlab_bit_xors), ("netlab/bit.nots", laid_netlab_bit_nots)] }
def VecMonotoneSaid : Prop := vecMonotoneRow.holds Tryz.pinned (OpenSpec.ofChange vecMonotoneSpec)

/-- ITS FALSE NEIGHBOUR: 'it returns false'. Refute it at one input. -/
def vecMonotoneWrong : ChangeSpec := { name := "vecMonotone", fn := fun _ => fun
  | [d1, d2, d3, d4, d5, d6] => { results := [.lit (.bool false)], args := [d1, d2, d3, d4, d5, d6] }
  | _ => none }
def VecMonotoneWrongFalsely : Prop := vecMonotoneRow.holds Tryz.pinned (OpenSpec.ofChange vecMonotoneWrong)

/-- 'netlablaw04.VecExamples': WHATEVER THE INPUT: true; the input reads as it did. -/
def vecExamplesSpec : ChangeSpec := { name := "vecExamples", fn := fun _ => fun
  | [] => { results := [.lit (.bool true)], args := [] }
  | _ => none }
def vecExamplesRow : OpenClaim := { program := "ytdgbdkfoeaollaagreatdoor", sum := "3b5984e14874a3d8e47554612225d5194ce805f0516d4437748ec7141ee20913", func := "netlab/netlablaw04.VecExamples", spec := "vecExamples", unfollowed := true, recurses := true, named := ["netlab/bit.ands", "netlab/bit.xors", "netlab/bit.nots", "netlab/bit.ors"], apart := false, laid := [("netlab/bit.ands", laid_netlab_bit_ands), ("netlab/bit.ors", laid_netlab_bit_ors), ("netlab/bit.xors", laid_netlab_bit_xors), ("netlab/bit.nots", laid_netlab_bit_nots)] }
def VecExamplesSaid : Prop := vecExamplesRow.holds Tryz.pinned (OpenSpec.ofChange vecExamplesSpec)

/-- ITS FALSE NEIGHBOUR: 'it returns false'. Refute it at one input. -/
def vecExamplesWrong : ChangeSpec := { name := "vecExamples", fn := fun _ => fun
  | [] => { results := [.lit (.bool false)], args := [] }
  | _ => none }
def VecExamplesWrongFalsely : Prop := vecExamplesRow.holds Tryz.pinned (OpenSpec.ofChange vecExamplesWrong)

/-- 'netlablaw04.VecBasicsMatch': WHATEVER THE INPUT: true; the input reads as it did. -/
def vecBasicsMatchSpec : ChangeSpec := { name := "vecBasicsMatch", fn := fun _ => fun
  | [d1, d2, d3] => { results := [.lit (.bool true)], args := [d1, d2, d3] }
  | _ => none }
def vecBasicsMatchRow : OpenClaim := { program := "ytdgbdkfoeaollaagreatdoor", sum := "3b5984e14874a3d8e47554612225d5194ce805f0516d4437748ec7141ee20913", func := "netlab/netlablaw04.VecBasicsMatch", spec := "vecBasicsMatch", unfollowed := true, recurses := true, named := ["netlab/bit.ands", "netlab/bit.xors", "netlab/bit.nots", "netlab/bit.ors"], apart := false, laid := [("netlab/bit.ands", laid_netlab_bit_ands), ("netlab/bit.ors", laid_netlab_bit_ors), ("netlab/bit.xors", laid_netlab_bit_xors), ("netlab/bit.nots", laid_netlab_bit_nots)] }
def VecBasicsMatchSaid : Prop := vecBasicsMatchRow.holds Tryz.pinned (OpenSpec.ofChange vecBasicsMatchSpec)

/-- ITS FALSE NEIGHBOUR: 'it returns false'. Refute it at one input. -/
def vecBasicsMatchWrong : ChangeSpec := { name := "vecBasicsMatch", fn := fun _ => fun
  | [d1, d2, d3] => { results := [.lit (.bool false)], args := [d1, d2, d3] }
  | _ => none }
def VecBasicsMatchWrongFalsely : Prop := vecBasicsMatchRow.holds Tryz.pinned (OpenSpec.ofChange vecBasicsMatchWrong)

/-- 'netlablaw04.VecStructureMatches': WHATEVER THE INPUT: true; the input reads as it did. -/
def vecStructureMatchesSpec : ChangeSpec := { name := "vecStructureMatches", fn := fun _ => fun
  | [d1, d2, d3, d4, d5, d6] => { results := [.lit (.bool true)], args := [d1, d2, d3, d4, d5, d6] }
  | _ => none }
def vecStructureMatchesRow : OpenClaim := { program := "ytdgbdkfoeaollaagreatdoor", sum := "3b5984e14874a3d8e47554612225d5194ce805f0516d4437748ec7141ee20913", func := "netlab/netlablaw04.VecStructureMatches", spec := "vecStructureMatches", unfollowed := true, recurses := true, named := ["netlab/bit.ands", "netlab/bit.xors", "netlab/bit.nots", "netlab/bit.ors"], apart := false, laid := [("netlab/bit.ands", laid_netlab_bit_ands), ("netlab/bit.ors", laid_netlab_bit_ors), ("netlab/bit.xors", laid_netlab_bit_xors), ("netlab/bit.nots", laid_netlab_bit_nots)] }
def VecStructureMatchesSaid : Prop := vecStructureMatchesRow.holds Tryz.pinned (OpenSpec.ofChange vecStructureMatchesSpec)

/-- ITS FALSE NEIGHBOUR: 'it returns false'. Refute it at one input. -/
def vecStructureMatchesWrong : ChangeSpec := { name := "vecStructureMatches", fn := fun _ => fun
  | [d1, d2, d3, d4, d5, d6] => { results := [.lit (.bool false)], args := [d1, d2, d3, d4, d5, d6] }
  | _ => none }
def VecStructureMatchesWrongFalsely : Prop := vecStructureMatchesRow.holds Tryz.pinned (OpenSpec.ofChange vecStructureMatchesWrong)

/-- 'netlablaw04.VecIntegers': WHATEVER THE INPUT: true; the input reads as it did. -/
def vecIntegersSpec : ChangeSpec := { name := "vecIntegers", fn := fun _ => fun
  | [d1, d2, d3, d4, d5, d6] => { results := [.lit (.bool true)], args := [d1, d2, d3, d4, d5, d6] }
  | _ => none }
def vecIntegersRow : OpenClaim := { program := "ytdgbdkfoeaollaagreatdoor", sum := "3b5984e14874a3d8e47554612225d5194ce805f0516d4437748ec7141ee20913", func := "netlab/netlablaw04.VecIntegers", spec := "vecIntegers", unfollowed := true, recurses := true, named := ["netlab/bit.ands", "netlab/bit.xors", "netlab/bit.nots", "netlab/bit.ors"], apart := false, laid := [("netlab/bit.ands", laid_netlab_bit_ands), ("netlab/bit.ors", laid_netlab_bit_ors), ("netlab/bit.xors", laid_netlab_bit_xors), ("netlab/bit.nots", laid_netlab_bit_nots)] }
def VecIntegersSaid : Prop := vecIntegersRow.holds Tryz.pinned (OpenSpec.ofChange vecIntegersSpec)

/-- ITS FALSE NEIGHBOUR: 'it returns false'. Refute it at one input. -/
def vecIntegersWrong : ChangeSpec := { name := "vecIntegers", fn := fun _ => fun
  | [d1, d2, d3, d4, d5, d6] => { results := [.lit (.bool false)], args := [d1, d2, d3, d4, d5, d6] }
  | _ => none }
def VecIntegersWrongFalsely : Prop := vecIntegersRow.holds Tryz.pinned (OpenSpec.ofChange vecIntegersWrong)

/-- 'netlablaw04.VecUnknown': WHATEVER THE INPUT: true; the input reads as it did. -/
def vecUnknownSpec : ChangeSpec := { name := "vecUnknown", fn := fun _ => fun
  | [d1, d2] => { results := [.lit (.bool true)], args := [d1, d2] }
  | _ => none }
def vecUnknownRow : OpenClaim := { program := "ytdgbdkfoeaollaagreatdoor", sum := "3b5984e14874a3d8e47554612225d5194ce805f0516d4437748ec7141ee20913", func := "netlab/netlablaw04.VecUnknown", spec := "vecUnknown", unfollowed := true, recurses := true, named := ["netlab/bit.ands", "netlab/bit.xors", "netlab/bit.nots", "netlab/bit.ors"], apart := false, laid := [("netlab/bit.ands", laid_netlab_bit_ands), ("netlab/bit.ors", laid_netlab_bit_ors), ("netlab/bit.xors", laid_netlab_bit_xors), ("netlab/bit.nots", laid_netlab_bit_nots)] }
def VecUnknownSaid : Prop := vecUnknownRow.holds Tryz.pinned (OpenSpec.ofChange vecUnknownSpec)

/-- ITS FALSE NEIGHBOUR: 'it returns false'. Refute it at one input. -/
def vecUnknownWrong : ChangeSpec := { name := "vecUnknown", fn := fun _ => fun
  | [d1, d2] => { results := [.lit (.bool false)], args := [d1, d2] }
  | _ => none }
def VecUnknownWrongFalsely : Prop := vecUnknownRow.holds Tryz.pinned (OpenSpec.ofChange vecUnknownWrong)

/-- 'netlablaw04.VecMatches': WHATEVER THE INPUT: true; the input reads as it did. -/
def vecMatchesSpec : ChangeSpec := { name := "vecMatches", fn := fun _ => fun
  | [d1, d2] => { results := [.lit (.bool true)], args := [d1, d2] }
  | _ => none }
def vecMatchesRow : OpenClaim := { program := "ytdgbdkfoeaollaagreatdoor", sum := "3b5984e14874a3d8e47554612225d5194ce805f0516d4437748ec7141ee20913", func := "netlab/netlablaw04.VecMatches", spec := "vecMatches", unfollowed := true, recurses := true, named := ["netlab/bit.ands", "netlab/bit.xors", "netlab/bit.nots", "netlab/bit.ors"], apart := false, laid := [("netlab/bit.ands", laid_netlab_bit_ands), ("netlab/bit.ors", laid_netlab_bit_ors), ("netlab/bit.xors", laid_netlab_bit_xors), ("netlab/bit.nots", laid_netlab_bit_nots)] }
def VecMatchesSaid : Prop := vecMatchesRow.holds Tryz.pinned (OpenSpec.ofChange vecMatchesSpec)

/-- ITS FALSE NEIGHBOUR: 'it returns false'. Refute it at one input. -/
def vecMatchesWrong : ChangeSpec := { name := "vecMatches", fn := fun _ => fun
  | [d1, d2] => { results := [.lit (.bool false)], args := [d1, d2] }
  | _ => none }
def VecMatchesWrongFalsely : Prop := vecMatchesRow.holds Tryz.pinned (OpenSpec.ofChange vecMatchesWrong)

/- THE SECOND FORM. 'bulk': how many values and letters a reading holds, each counted each time it is reached (what is shared counts as often as it is met; a slice's spare places count too). A statement '..UptoSaid' is the law's where the arguments, and the package variables that the reading takes, are together of bulk at most 1048576: NARROWER than '..Said'. Prove '..Said' where nothing that the law and all that it calls make is longer than what came in: it says more and counts as full. Else prove '..UptoSaid'. A law counts once. -/
mutual
def uptoBulk {H : Type} : DataW H → Nat
  | .lit (.string bytes) => bytes.length + 1
  | .lit _ => 1
  | .nil => 1
  | .ptr d => uptoBulk d + 1
  | .slice elems spare => uptoBulkAll elems + uptoBulkAll spare + 1
  | .agg parts => uptoBulkAll parts + 1
  | .iface _ d => uptoBulk d + 1
  | .map entries => uptoBulkEntries entries + 1
  | .held _ => 1
def uptoBulkAll {H : Type} : List (DataW H) → Nat
  | [] => 0
  | d :: r => uptoBulk d + uptoBulkAll r
def uptoBulkEntries {H : Type} : List (Lit × DataW H) → Nat
  | [] => 0
  | x :: r => uptoBulkEntry x + uptoBulkEntries r
def uptoBulkEntry {H : Type} : Lit × DataW H → Nat
  | (.string bytes, d) => bytes.length + uptoBulk d + 1
  | (_, d) => uptoBulk d + 1
 end
def uptoSmall : (H : Type) → List (DataW H) → Bool := fun _ ds => decide (uptoBulkAll ds ≤ 1048576)
def OpenSpec.upto (s : _root_.Go.ChangeSpec) : _root_.Go.OpenSpec := { _root_.Go.OpenSpec.ofChange s with cond := some uptoSmall }

/-- 'netlablaw04.VecMonotone', WHERE WHAT IT READS IS OF BULK AT MOST 1048576: true; the input reads as it did. -/
def vecMonotoneUptoRow : OpenClaim := { program := "ytdgbdkfoeaollaagreatdoor", sum := "3b5984e14874a3d8e47554612225d5194ce805f0516d4437748ec7141ee20913", func := "netlab/netlablaw04.VecMonotone", spec := "vecMonotone", unfollowed := true, recurses := true, named := ["netlab/bit.ands", "netlab/bit.xors", "netlab/bit.nots", "netlab/bit.ors"], apart := false, laid := [("netlab/bit.ands", laid_netlab_bit_ands), ("netlab/bit.ors", laid_netlab_bit_ors), ("netlab/bit.xors", laid_netlab_bit_xors), ("netlab/bit.nots", laid_netlab_bit_nots)], narrowed := true }
def VecMonotoneUptoSaid : Prop := vecMonotoneUptoRow.holds Tryz.pinned (OpenSpec.upto vecMonotoneSpec)

/-- 'netlablaw04.VecExamples', WHERE WHAT IT READS IS OF BULK AT MOST 1048576: true; the input reads as it did. -/
def vecExamplesUptoRow : OpenClaim := { program := "ytdgbdkfoeaollaagreatdoor", sum := "3b5984e14874a3d8e47554612225d5194ce805f0516d4437748ec7141ee20913", func := "netlab/netlablaw04.VecExamples", spec := "vecExamples", unfollowed := true, recurses := true, named := ["netlab/bit.ands", "netlab/bit.xors", "netlab/bit.nots", "netlab/bit.ors"], apart := false, laid := [("netlab/bit.ands", laid_netlab_bit_ands), ("netlab/bit.ors", laid_netlab_bit_ors), ("netlab/bit.xors", laid_netlab_bit_xors), ("netlab/bit.nots", laid_netlab_bit_nots)], narrowed := true }
def VecExamplesUptoSaid : Prop := vecExamplesUptoRow.holds Tryz.pinned (OpenSpec.upto vecExamplesSpec)

/-- 'netlablaw04.VecBasicsMatch', WHERE WHAT IT READS IS OF BULK AT MOST 1048576: true; the input reads as it did. -/
def vecBasicsMatchUptoRow : OpenClaim := { program := "ytdgbdkfoeaollaagreatdoor", sum := "3b5984e14874a3d8e47554612225d5194ce805f0516d4437748ec7141ee20913", func := "netlab/netlablaw04.VecBasicsMatch", spec := "vecBasicsMatch", unfollowed := true, recurses := true, named := ["netlab/bit.ands", "netlab/bit.xors", "netlab/bit.nots", "netlab/bit.ors"], apart := false, laid := [("netlab/bit.ands", laid_netlab_bit_ands), ("netlab/bit.ors", laid_netlab_bit_ors), ("netlab/bit.xors", laid_netlab_bit_xors), ("netlab/bit.nots", laid_netlab_bit_nots)], narrowed := true }
def VecBasicsMatchUptoSaid : Prop := vecBasicsMatchUptoRow.holds Tryz.pinned (OpenSpec.upto vecBasicsMatchSpec)

/-- 'netlablaw04.VecStructureMatches', WHERE WHAT IT READS IS OF BULK AT MOST 1048576: true; the input reads as it did. -/
def vecStructureMatchesUptoRow : OpenClaim := { program := "ytdgbdkfoeaollaagreatdoor", sum := "3b5984e14874a3d8e47554612225d5194ce805f0516d4437748ec7141ee20913", func := "netlab/netlablaw04.VecStructureMatches", spec := "vecStructureMatches", unfollowed := true, recurses := true, named := ["netlab/bit.ands", "netlab/bit.xors", "netlab/bit.nots", "netlab/bit.ors"], apart := false, laid := [("netlab/bit.ands", laid_netlab_bit_ands), ("netlab/bit.ors", laid_netlab_bit_ors), ("netlab/bit.xors", laid_netlab_bit_xors), ("netlab/bit.nots", laid_netlab_bit_nots)], narrowed := true }
def VecStructureMatchesUptoSaid : Prop := vecStructureMatchesUptoRow.holds Tryz.pinned (OpenSpec.upto vecStructureMatchesSpec)

/-- 'netlablaw04.VecIntegers', WHERE WHAT IT READS IS OF BULK AT MOST 1048576: true; the input reads as it did. -/
def vecIntegersUptoRow : OpenClaim := { program := "ytdgbdkfoeaollaagreatdoor", sum := "3b5984e14874a3d8e47554612225d5194ce805f0516d4437748ec7141ee20913", func := "netlab/netlablaw04.VecIntegers", spec := "vecIntegers", unfollowed := true, recurses := true, named := ["netlab/bit.ands", "netlab/bit.xors", "netlab/bit.nots", "netlab/bit.ors"], apart := false, laid := [("netlab/bit.ands", laid_netlab_bit_ands), ("netlab/bit.ors", laid_netlab_bit_ors), ("netlab/bit.xors", laid_netlab_bit_xors), ("netlab/bit.nots", laid_netlab_bit_nots)], narrowed := true }
def VecIntegersUptoSaid : Prop := vecIntegersUptoRow.holds Tryz.pinned (OpenSpec.upto vecIntegersSpec)

/-- 'netlablaw04.VecUnknown', WHERE WHAT IT READS IS OF BULK AT MOST 1048576: true; the input reads as it did. -/
def vecUnknownUptoRow : OpenClaim := { program := "ytdgbdkfoeaollaagreatdoor", sum := "3b5984e14874a3d8e47554612225d5194ce805f0516d4437748ec7141ee20913", func := "netlab/netlablaw04.VecUnknown", spec := "vecUnknown", unfollowed := true, recurses := true, named := ["netlab/bit.ands", "netlab/bit.xors", "netlab/bit.nots", "netlab/bit.ors"], apart := false, laid := [("netlab/bit.ands", laid_netlab_bit_ands), ("netlab/bit.ors", laid_netlab_bit_ors), ("netlab/bit.xors", laid_netlab_bit_xors), ("netlab/bit.nots", laid_netlab_bit_nots)], narrowed := true }
def VecUnknownUptoSaid : Prop := vecUnknownUptoRow.holds Tryz.pinned (OpenSpec.upto vecUnknownSpec)

/-- 'netlablaw04.VecMatches', WHERE WHAT IT READS IS OF BULK AT MOST 1048576: true; the input reads as it did. -/
def vecMatchesUptoRow : OpenClaim := { program := "ytdgbdkfoeaollaagreatdoor", sum := "3b5984e14874a3d8e47554612225d5194ce805f0516d4437748ec7141ee20913", func := "netlab/netlablaw04.VecMatches", spec := "vecMatches", unfollowed := true, recurses := true, named := ["netlab/bit.ands", "netlab/bit.xors", "netlab/bit.nots", "netlab/bit.ors"], apart := false, laid := [("netlab/bit.ands", laid_netlab_bit_ands), ("netlab/bit.ors", laid_netlab_bit_ors), ("netlab/bit.xors", laid_netlab_bit_xors), ("netlab/bit.nots", laid_netlab_bit_nots)], narrowed := true }
def VecMatchesUptoSaid : Prop := vecMatchesUptoRow.holds Tryz.pinned (OpenSpec.upto vecMatchesSpec)

end Rows
end Go.Proofs.YtdgbdkfoeaollaaGreatDoor
