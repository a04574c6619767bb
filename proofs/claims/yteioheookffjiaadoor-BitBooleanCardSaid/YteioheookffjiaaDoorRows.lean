/-
  NARROWER THAN 'FOR EVERY INPUT', by the rows' own cells (each row's printed sentence says how): BitMonotone: laid · BitAlgebra: laid · BitOrder: laid · BitMatches: laid · BitExamples: laid · BitChars: laid · BitParseMatches: laid · BitBoolean: laid.
  DERIVED. THE GIVEN ROWS OF THIS SEAT. 8 by the template 'for every input the law returns true; each argument reads behind the call as it read before'; 0 by the template 'total and deterministic' (their statements: YteioheookffjiaaDoorTotals.lean).
  GIVEN WITH THE SEED: the statements are not yours to turn. If you find one false, say at which input.
  Laid BY PROGRAM, IN A SANDBOX (cutbox-rows.mjs): the forced cells as the released guide's own fill.sh prints them over the translation f10d1e8ec2738182… (all of the seat's roots in one cut). By AI agents, Wed Nov 11 2026. No macro, syntax, notation, axiom, sorry.
-/
import Derived.Test.YteioheookffjiaaDoorChecked
import GoSem.Claim
import GoSem.ClaimJoined
import GoSem.ClaimMapViews
import Derived.JoinedTies
import Derived.KernelRfl
namespace Go.Proofs.YteioheookffjiaaDoor
/- THE CELL 'sum', in the pinned program and in every row, IS THE sha256 OF THE DUMP (.gsa) THAT YteioheookffjiaaDoorProg.lean LOADS. Nothing in Lean hashes anything: it is a label: what it is worth is what the hold of that sum in a sandbox is worth. -/
noncomputable def Tryd.pinned : Pinned := { name := "yteioheookffjiaadoor", sum := "f10d1e8ec2738182cecd21bb36e463384692c6eda960c7d43d3306759f3e3886", checked := Tryd.checked }
namespace Rows
def none {H : Type} : Left H := { results := [], args := [] }

/- WHAT THE LISTED PACKAGE-LEVEL VARIABLES READ AS WHEN THE CALL BEGINS. Each datum BY PROGRAM (the guide's laid-datum.mjs) off the statement by which the dump's own 'gosem.cut.vars' lays the variable. In a bare row this is a premise. The card (YteioheookffjiaaDoorCards.lean) ties it to the program's text. -/
def laid_netlab_bit_ands {H : Type} : DataW H := .agg [.lit (.int .u8 0), .lit (.int .u8 0), .lit (.int .u8 0), .lit (.int .u8 0), .lit (.int .u8 0), .lit (.int .u8 1), .lit (.int .u8 2), .lit (.int .u8 2), .lit (.int .u8 0), .lit (.int .u8 2), .lit (.int .u8 2), .lit (.int .u8 2), .lit (.int .u8 0), .lit (.int .u8 2), .lit (.int .u8 2), .lit (.int .u8 2)]
def laid_netlab_bit_ors {H : Type} : DataW H := .agg [.lit (.int .u8 0), .lit (.int .u8 1), .lit (.int .u8 2), .lit (.int .u8 2), .lit (.int .u8 1), .lit (.int .u8 1), .lit (.int .u8 1), .lit (.int .u8 1), .lit (.int .u8 2), .lit (.int .u8 1), .lit (.int .u8 2), .lit (.int .u8 2), .lit (.int .u8 2), .lit (.int .u8 1), .lit (.int .u8 2), .lit (.int .u8 2)]
def laid_netlab_bit_xors {H : Type} : DataW H := .agg [.lit (.int .u8 0), .lit (.int .u8 1), .lit (.int .u8 2), .lit (.int .u8 2), .lit (.int .u8 1), .lit (.int .u8 0), .lit (.int .u8 2), .lit (.int .u8 2), .lit (.int .u8 2), .lit (.int .u8 2), .lit (.int .u8 2), .lit (.int .u8 2), .lit (.int .u8 2), .lit (.int .u8 2), .lit (.int .u8 2), .lit (.int .u8 2)]
def laid_netlab_bit_nots {H : Type} : DataW H := .agg [.lit (.int .u8 1), .lit (.int .u8 0), .lit (.int .u8 2), .lit (.int .u8 2)]

/-- 'netlablaw01.BitMonotone': WHATEVER THE INPUT: true; the input reads as it did. -/
def bitMonotoneSpec : ChangeSpec := { name := "bitMonotone", fn := fun _ => fun
  | [d1, d2, d3, d4, d5, d6] => { results := [.lit (.bool true)], args := [d1, d2, d3, d4, d5, d6] }
  | _ => none }
def bitMonotoneRow : OpenClaim := { program := "yteioheookffjiaadoor", sum := "f10d1e8ec2738182cecd21bb36e463384692c6eda960c7d43d3306759f3e3886", func := "netlab/netlablaw01.BitMonotone", spec := "bitMonotone", named := ["netlab/bit.ands", "netlab/bit.ors", "netlab/bit.xors", "netlab/bit.nots"], apart := false, laid := [("netlab/bit.ands", laid_netlab_bit_ands), ("netlab/bit.ors", laid_netlab_bit_ors), ("netlab/bit.xors", laid_netlab_bit_xors), ("netlab/bit.nots", laid_netlab_bit_nots)] }
def BitMonotoneSaid : Prop := bitMonotoneRow.holds Tryd.pinned (OpenSpec.ofChange bitMonotoneSpec)

/-- ITS FALSE NEIGHBOUR: 'it returns false'. Refute it at one input. -/
def bitMonotoneWrong : ChangeSpec := { name := "bitMonotone", fn := fun _ => fun
  | [d1, d2, d3, d4, d5, d6] => { results := [.lit (.bool false)], args := [d1, d2, d3, d4, d5, d6] }
  | _ => none }
def BitMonotoneWrongFalsely : Prop := bitMonotoneRow.holds Tryd.pinned (OpenSpec.ofChange bitMonotoneWrong)

/-- 'netlablaw01.BitAlgebra': WHATEVER THE INPUT: true; the input reads as it did. -/
def bitAlgebraSpec : ChangeSpec := { name := "bitAlgebra", fn := fun _ => fun
  | [d1, d2, d3] => { results := [.lit (.bool true)], args := [d1, d2, d3] }
  | _ => none }
def bitAlgebraRow : OpenClaim := { program := "yteioheookffjiaadoor", sum := "f10d1e8ec2738182cecd21bb36e463384692c6eda960c7d43d3306759f3e3886", func := "netlab/netlablaw01.BitAlgebra", spec := "bitAlgebra", named := ["netlab/bit.ands", "netlab/bit.ors", "netlab/bit.xors", "netlab/bit.nots"], apart := false, laid := [("netlab/bit.ands", laid_netlab_bit_ands), ("netlab/bit.ors", laid_netlab_bit_ors), ("netlab/bit.xors", laid_netlab_bit_xors), ("netlab/bit.nots", laid_netlab_bit_nots)] }
def BitAlgebraSaid : Prop := bitAlgebraRow.holds Tryd.pinned (OpenSpec.ofChange bitAlgebraSpec)

/-- ITS FALSE NEIGHBOUR: 'it returns false'. Refute it at one input. -/
def bitAlgebraWrong : ChangeSpec := { name := "bitAlgebra", fn := fun _ => fun
  | [d1, d2, d3] => { results := [.lit (.bool false)], args := [d1, d2, d3] }
  | _ => none }
def BitAlgebraWrongFalsely : Prop := bitAlgebraRow.holds Tryd.pinned (OpenSpec.ofChange bitAlgebraWrong)

/-- 'netlablaw01.BitOrder': WHATEVER THE INPUT: true; the input reads as it did. -/
def bitOrderSpec : ChangeSpec := { name := "bitOrder", fn := fun _ => fun
  | [d1, d2, d3] => { results := [.lit (.bool true)], args := [d1, d2, d3] }
  | _ => none }
def bitOrderRow : OpenClaim := { program := "yteioheookffjiaadoor", sum := "f10d1e8ec2738182cecd21bb36e463384692c6eda960c7d43d3306759f3e3886", func := "netlab/netlablaw01.BitOrder", spec := "bitOrder", named := ["netlab/bit.ands", "netlab/bit.ors", "netlab/bit.xors", "netlab/bit.nots"], apart := false, laid := [("netlab/bit.ands", laid_netlab_bit_ands), ("netlab/bit.ors", laid_netlab_bit_ors), ("netlab/bit.xors", laid_netlab_bit_xors), ("netlab/bit.nots", laid_netlab_bit_nots)] }
def BitOrderSaid : Prop := bitOrderRow.holds Tryd.pinned (OpenSpec.ofChange bitOrderSpec)

/-- ITS FALSE NEIGHBOUR: 'it returns false'. Refute it at one input. -/
def bitOrderWrong : ChangeSpec := { name := "bitOrder", fn := fun _ => fun
  | [d1, d2, d3] => { results := [.lit (.bool false)], args := [d1, d2, d3] }
  | _ => none }
def BitOrderWrongFalsely : Prop := bitOrderRow.holds Tryd.pinned (OpenSpec.ofChange bitOrderWrong)

/-- 'netlablaw01.BitMatches': WHATEVER THE INPUT: true; the input reads as it did. -/
def bitMatchesSpec : ChangeSpec := { name := "bitMatches", fn := fun _ => fun
  | [d1, d2, d3] => { results := [.lit (.bool true)], args := [d1, d2, d3] }
  | _ => none }
def bitMatchesRow : OpenClaim := { program := "yteioheookffjiaadoor", sum := "f10d1e8ec2738182cecd21bb36e463384692c6eda960c7d43d3306759f3e3886", func := "netlab/netlablaw01.BitMatches", spec := "bitMatches", named := ["netlab/bit.nots", "netlab/bit.ands", "netlab/bit.ors", "netlab/bit.xors"], apart := false, laid := [("netlab/bit.ands", laid_netlab_bit_ands), ("netlab/bit.ors", laid_netlab_bit_ors), ("netlab/bit.xors", laid_netlab_bit_xors), ("netlab/bit.nots", laid_netlab_bit_nots)] }
def BitMatchesSaid : Prop := bitMatchesRow.holds Tryd.pinned (OpenSpec.ofChange bitMatchesSpec)

/-- ITS FALSE NEIGHBOUR: 'it returns false'. Refute it at one input. -/
def bitMatchesWrong : ChangeSpec := { name := "bitMatches", fn := fun _ => fun
  | [d1, d2, d3] => { results := [.lit (.bool false)], args := [d1, d2, d3] }
  | _ => none }
def BitMatchesWrongFalsely : Prop := bitMatchesRow.holds Tryd.pinned (OpenSpec.ofChange bitMatchesWrong)

/-- 'netlablaw01.BitExamples': WHATEVER THE INPUT: true; the input reads as it did. -/
def bitExamplesSpec : ChangeSpec := { name := "bitExamples", fn := fun _ => fun
  | [] => { results := [.lit (.bool true)], args := [] }
  | _ => none }
def bitExamplesRow : OpenClaim := { program := "yteioheookffjiaadoor", sum := "f10d1e8ec2738182cecd21bb36e463384692c6eda960c7d43d3306759f3e3886", func := "netlab/netlablaw01.BitExamples", spec := "bitExamples", named := ["netlab/bit.ands", "netlab/bit.ors", "netlab/bit.xors", "netlab/bit.nots"], apart := false, laid := [("netlab/bit.ands", laid_netlab_bit_ands), ("netlab/bit.ors", laid_netlab_bit_ors), ("netlab/bit.xors", laid_netlab_bit_xors), ("netlab/bit.nots", laid_netlab_bit_nots)] }
def BitExamplesSaid : Prop := bitExamplesRow.holds Tryd.pinned (OpenSpec.ofChange bitExamplesSpec)

/-- ITS FALSE NEIGHBOUR: 'it returns false'. Refute it at one input. -/
def bitExamplesWrong : ChangeSpec := { name := "bitExamples", fn := fun _ => fun
  | [] => { results := [.lit (.bool false)], args := [] }
  | _ => none }
def BitExamplesWrongFalsely : Prop := bitExamplesRow.holds Tryd.pinned (OpenSpec.ofChange bitExamplesWrong)

/-- 'netlablaw01.BitChars': WHATEVER THE INPUT: true; the input reads as it did. -/
def bitCharsSpec : ChangeSpec := { name := "bitChars", fn := fun _ => fun
  | [d1, d2] => { results := [.lit (.bool true)], args := [d1, d2] }
  | _ => none }
def bitCharsRow : OpenClaim := { program := "yteioheookffjiaadoor", sum := "f10d1e8ec2738182cecd21bb36e463384692c6eda960c7d43d3306759f3e3886", func := "netlab/netlablaw01.BitChars", spec := "bitChars", named := ["netlab/bit.ands", "netlab/bit.ors", "netlab/bit.xors", "netlab/bit.nots"], apart := false, laid := [("netlab/bit.ands", laid_netlab_bit_ands), ("netlab/bit.ors", laid_netlab_bit_ors), ("netlab/bit.xors", laid_netlab_bit_xors), ("netlab/bit.nots", laid_netlab_bit_nots)] }
def BitCharsSaid : Prop := bitCharsRow.holds Tryd.pinned (OpenSpec.ofChange bitCharsSpec)

/-- ITS FALSE NEIGHBOUR: 'it returns false'. Refute it at one input. -/
def bitCharsWrong : ChangeSpec := { name := "bitChars", fn := fun _ => fun
  | [d1, d2] => { results := [.lit (.bool false)], args := [d1, d2] }
  | _ => none }
def BitCharsWrongFalsely : Prop := bitCharsRow.holds Tryd.pinned (OpenSpec.ofChange bitCharsWrong)

/-- 'netlablaw01.BitParseMatches': WHATEVER THE INPUT: true; the input reads as it did. -/
def bitParseMatchesSpec : ChangeSpec := { name := "bitParseMatches", fn := fun _ => fun
  | [d1, d2] => { results := [.lit (.bool true)], args := [d1, d2] }
  | _ => none }
def bitParseMatchesRow : OpenClaim := { program := "yteioheookffjiaadoor", sum := "f10d1e8ec2738182cecd21bb36e463384692c6eda960c7d43d3306759f3e3886", func := "netlab/netlablaw01.BitParseMatches", spec := "bitParseMatches", named := ["netlab/bit.ands", "netlab/bit.ors", "netlab/bit.xors", "netlab/bit.nots"], apart := false, laid := [("netlab/bit.ands", laid_netlab_bit_ands), ("netlab/bit.ors", laid_netlab_bit_ors), ("netlab/bit.xors", laid_netlab_bit_xors), ("netlab/bit.nots", laid_netlab_bit_nots)] }
def BitParseMatchesSaid : Prop := bitParseMatchesRow.holds Tryd.pinned (OpenSpec.ofChange bitParseMatchesSpec)

/-- ITS FALSE NEIGHBOUR: 'it returns false'. Refute it at one input. -/
def bitParseMatchesWrong : ChangeSpec := { name := "bitParseMatches", fn := fun _ => fun
  | [d1, d2] => { results := [.lit (.bool false)], args := [d1, d2] }
  | _ => none }
def BitParseMatchesWrongFalsely : Prop := bitParseMatchesRow.holds Tryd.pinned (OpenSpec.ofChange bitParseMatchesWrong)

/-- 'netlablaw01.BitBoolean': WHATEVER THE INPUT: true; the input reads as it did. -/
def bitBooleanSpec : ChangeSpec := { name := "bitBoolean", fn := fun _ => fun
  | [d1, d2, d3] => { results := [.lit (.bool true)], args := [d1, d2, d3] }
  | _ => none }
def bitBooleanRow : OpenClaim := { program := "yteioheookffjiaadoor", sum := "f10d1e8ec2738182cecd21bb36e463384692c6eda960c7d43d3306759f3e3886", func := "netlab/netlablaw01.BitBoolean", spec := "bitBoolean", named := ["netlab/bit.nots", "netlab/bit.ands", "netlab/bit.ors", "netlab/bit.xors"], apart := false, laid := [("netlab/bit.ands", laid_netlab_bit_ands), ("netlab/bit.ors", laid_netlab_bit_ors), ("netlab/bit.xors", laid_netlab_bit_xors), ("netlab/bit.nots", laid_netlab_bit_nots)] }
def BitBooleanSaid : Prop := bitBooleanRow.holds Tryd.pinned (OpenSpec.ofChange bitBooleanSpec)

/-- ITS FALSE NEIGHBOUR: 'it returns false'. Refute it at one input. -/
def bitBooleanWrong : ChangeSpec := { name := "bitBoolean", fn := fun _ => fun
  | [d1, d2, d3] => { results := [.lit (.bool false)], args := [d1, d2, d3] }
  | _ => none }
def BitBooleanWrongFalsely : Prop := bitBooleanRow.holds Tryd.pinned (OpenSpec.ofChange bitBooleanWrong)

/- THE SECOND FORM. 'bulk': how many values and letters a reading holds, each counted each time it is reached (what is shared counts as often as it is met; a slice's spare places count too). A statement '..UptoSaid' is the law's where the arguments, and the package variables that the reading takes, are together of bulk at most 1048576: NARROWER than '..Said'. Prove '..Said' where nothing that the law and all that it calls make is longer than what came in: it says more and counts as full. Else prove '..UptoSaid'. A law counts once. -/
mutual
def uptoBulk {H : Type} : DataW H → Nat
  | .lit (.string bytes) => bytes.length + 1
  | .lit _ => 1
  | .nil => 1
  | .ptr d => uptoBulk d + 1
  | .slice elems spare => uptoBulkAll elems + uptoBulkAll spare + 1
  | .agg parts => uptoBulkAll parts + 1
  | .iface _ d => uptoBulk d + 1
  | .map entries => uptoBulkEntries entries + 1
  | .held _ => 1
def uptoBulkAll {H : Type} : List (DataW H) → Nat
  | [] => 0
  | d :: r => uptoBulk d + uptoBulkAll r
def uptoBulkEntries {H : Type} : List (Lit × DataW H) → Nat
  | [] => 0
  | x :: r => uptoBulkEntry x + uptoBulkEntries r
def uptoBulkEntry {H : Type} : Lit × DataW H → Nat
  | (.string bytes, d) => bytes.length + uptoBulk d + 1
  | (_, d) => uptoBulk d + 1
 end
def uptoSmall : (H : Type) → List (DataW H) → Bool := fun _ ds => decide (uptoBulkAll ds ≤ 1048576)
def OpenSpec.upto (s : _root_.Go.ChangeSpec) : _root_.Go.OpenSpec := { _root_.Go.OpenSpec.ofChange s with cond := some uptoSmall }

/-- 'netlablaw01.BitMonotone', WHERE WHAT IT READS IS OF BULK AT MOST 1048576: true; the input reads as it did. -/
def bitMonotoneUptoRow : OpenClaim := { program := "yteioheookffjiaadoor", sum := "f10d1e8ec2738182cecd21bb36e463384692c6eda960c7d43d3306759f3e3886", func := "netlab/netlablaw01.BitMonotone", spec := "bitMonotone", named := ["netlab/bit.ands", "netlab/bit.ors", "netlab/bit.xors", "netlab/bit.nots"], apart := false, laid := [("netlab/bit.ands", laid_netlab_bit_ands), ("netlab/bit.ors", laid_netlab_bit_ors), ("netlab/bit.xors", laid_netlab_bit_xors), ("netlab/bit.nots", laid_netlab_bit_nots)], narrowed := true }
def BitMonotoneUptoSaid : Prop := bitMonotoneUptoRow.holds Tryd.pinned (OpenSpec.upto bitMonotoneSpec)

/-- 'netlablaw01.BitAlgebra', WHERE WHAT IT READS IS OF BULK AT MOST 1048576: true; the input reads as it did. -/
def bitAlgebraUptoRow : OpenClaim := { program := "yteioheookffjiaadoor", sum := "f10d1e8ec2738182cecd21bb36e463384692c6eda960c7d43d3306759f3e3886", func := "netlab/netlablaw01.BitAlgebra", spec := "bitAlgebra", named := ["netlab/bit.ands", "netlab/bit.ors", "netlab/bit.xors", "netlab/bit.nots"], apart := false, laid := [("netlab/bit.ands", laid_netlab_bit_ands), ("netlab/bit.ors", laid_netlab_bit_ors), ("netlab/bit.xors", laid_netlab_bit_xors), ("netlab/bit.nots", laid_netlab_bit_nots)], narrowed := true }
def BitAlgebraUptoSaid : Prop := bitAlgebraUptoRow.holds Tryd.pinned (OpenSpec.upto bitAlgebraSpec)

/-- 'netlablaw01.BitOrder', WHERE WHAT IT READS IS OF BULK AT MOST 1048576: true; the input reads as it did. -/
def bitOrderUptoRow : OpenClaim := { program := "yteioheookffjiaadoor", sum := "f10d1e8ec2738182cecd21bb36e463384692c6eda960c7d43d3306759f3e3886", func := "netlab/netlablaw01.BitOrder", spec := "bitOrder", named := ["netlab/bit.ands", "netlab/bit.ors", "netlab/bit.xors", "netlab/bit.nots"], apart := false, laid := [("netlab/bit.ands", laid_netlab_bit_ands), ("netlab/bit.ors", laid_netlab_bit_ors), ("netlab/bit.xors", laid_netlab_bit_xors), ("netlab/bit.nots", laid_netlab_bit_nots)], narrowed := true }
def BitOrderUptoSaid : Prop := bitOrderUptoRow.holds Tryd.pinned (OpenSpec.upto bitOrderSpec)

/-- 'netlablaw01.BitMatches', WHERE WHAT IT READS IS OF BULK AT MOST 1048576: true; the input reads as it did. -/
def bitMatchesUptoRow : OpenClaim := { program := "yteioheookffjiaadoor", sum := "f10d1e8ec2738182cecd21bb36e463384692c6eda960c7d43d3306759f3e3886", func := "netlab/netlablaw01.BitMatches", spec := "bitMatches", named := ["netlab/bit.nots", "netlab/bit.ands", "netlab/bit.ors", "netlab/bit.xors"], apart := false, laid := [("netlab/bit.ands", laid_netlab_bit_ands), ("netlab/bit.ors", laid_netlab_bit_ors), ("netlab/bit.xors", laid_netlab_bit_xors), ("netlab/bit.nots", laid_netlab_bit_nots)], narrowed := true }
def BitMatchesUptoSaid : Prop := bitMatchesUptoRow.holds Tryd.pinned (OpenSpec.upto bitMatchesSpec)

/-- 'netlablaw01.BitExamples', WHERE WHAT IT READS IS OF BULK AT MOST 1048576: true; the input reads as it did. -/
def bitExamplesUptoRow : OpenClaim := { program := "yteioheookffjiaadoor", sum := "f10d1e8ec2738182cecd21bb36e463384692c6eda960c7d43d3306759f3e3886", func := "netlab/netlablaw01.BitExamples", spec := "bitExamples", named := ["netlab/bit.ands", "netlab/bit.ors", "netlab/bit.xors", "netlab/bit.nots"], apart := false, laid := [("netlab/bit.ands", laid_netlab_bit_ands), ("netlab/bit.ors", laid_netlab_bit_ors), ("netlab/bit.xors", laid_netlab_bit_xors), ("netlab/bit.nots", laid_netlab_bit_nots)], narrowed := true }
def BitExamplesUptoSaid : Prop := bitExamplesUptoRow.holds Tryd.pinned (OpenSpec.upto bitExamplesSpec)

/-- 'netlablaw01.BitChars', WHERE WHAT IT READS IS OF BULK AT MOST 1048576: true; the input reads as it did. -/
def bitCharsUptoRow : OpenClaim := { program := "yteioheookffjiaadoor", sum := "f10d1e8ec2738182cecd21bb36e463384692c6eda960c7d43d3306759f3e3886", func := "netlab/netlablaw01.BitChars", spec := "bitChars", named := ["netlab/bit.ands", "netlab/bit.ors", "netlab/bit.xors", "netlab/bit.nots"], apart := false, laid := [("netlab/bit.ands", laid_netlab_bit_ands), ("netlab/bit.ors", laid_netlab_bit_ors), ("netlab/bit.xors", laid_netlab_bit_xors), ("netlab/bit.nots", laid_netlab_bit_nots)], narrowed := true }
def BitCharsUptoSaid : Prop := bitCharsUptoRow.holds Tryd.pinned (OpenSpec.upto bitCharsSpec)

/-- 'netlablaw01.BitParseMatches', WHERE WHAT IT READS IS OF BULK AT MOST 1048576: true; the input reads as it did. -/
def bitParseMatchesUptoRow : OpenClaim := { program := "yteioheookffjiaadoor", sum := "f10d1e8ec2738182cecd21bb36e463384692c6eda960c7d43d3306759f3e3886", func := "netlab/netlablaw01.BitParseMatches", spec := "bitParseMatches", named := ["netlab/bit.ands", "netlab/bit.ors", "netlab/bit.xors", "netlab/bit.nots"], apart := false, laid := [("netlab/bit.ands", laid_netlab_bit_ands), ("netlab/bit.ors", laid_netlab_bit_ors), ("netlab/bit.xors", laid_netlab_bit_xors), ("netlab/bit.nots", laid_netlab_bit_nots)], narrowed := true }
def BitParseMatchesUptoSaid : Prop := bitParseMatchesUptoRow.holds Tryd.pinned (OpenSpec.upto bitParseMatchesSpec)

/-- 'netlablaw01.BitBoolean', WHERE WHAT IT READS IS OF BULK AT MOST 1048576: true; the input reads as it did. -/
def bitBooleanUptoRow : OpenClaim := { program := "yteioheookffjiaadoor", sum := "f10d1e8ec2738182cecd21bb36e463384692c6eda960c7d43d3306759f3e3886", func := "netlab/netlablaw01.BitBoolean", spec := "bitBoolean", named := ["netlab/bit.nots", "netlab/bit.ands", "netlab/bit.ors", "netlab/bit.xors"], apart := false, laid := [("netlab/bit.ands", laid_netlab_bit_ands), ("netlab/bit.ors", laid_netlab_bit_ors), ("netlab/bit.xors", laid_netlab_bit_xors), ("netlab/bit.nots", laid_netlab_bit_nots)], narrowed := true }
def BitBooleanUptoSaid : Prop := bitBooleanUptoRow.holds Tryd.pinned (OpenSpec.upto bitBooleanSpec)

end Rows
end Go.Proofs.YteioheookffjiaaDoor
