/-
  No cell of these rows narrows 'for every input' (looked for: loops, veiled, ifaces, maps, wideKeys, modest, calm, conditions, laid).
  DERIVED. THE GIVEN ROWS OF THIS SEAT. 10 by the template 'for every input the law returns true; each argument reads behind the call as it read before'; 0 by the template 'total and deterministic' (their statements: YteeckncfllbokaaTotals.lean).
  GIVEN WITH THE SEED: the statements are not yours to turn. If you find one false, say at which input.
  Laid BY PROGRAM, IN A SANDBOX (cutbox-rows.mjs): the forced cells as the released guide's own fill.sh prints them over the translation b7cbfe5621893b59… (all of the seat's roots in one cut). By AI agents, Wed Nov 11 2026. No macro, syntax, notation, axiom, sorry.
-/
import Derived.Test.YteeckncfllbokaaChecked
import GoSem.Claim
import GoSem.ClaimJoined
import GoSem.ClaimMapViews
import Derived.JoinedTies
import Derived.KernelRfl
namespace Go.Proofs.Yteeckncfllbokaa
/- THE CELL 'sum', in the pinned program and in every row, IS THE sha256 OF THE DUMP (.gsa) THAT YteeckncfllbokaaProg.lean LOADS. Nothing in Lean hashes anything: it is a label: what it is worth is what the hold of that sum in a sandbox is worth. -/
noncomputable def Try.pinned : Pinned := { name := "yteeckncfllbokaa", sum := "b7cbfe5621893b59d52b65d94a93b7040cf7f0deb194b9408feeb979df8bc5ac", checked := Try.checked }
namespace Rows
def none {H : Type} : Left H := { results := [], args := [] }

/-- 'netlablaw03.BvDivisionMatches': WHATEVER THE INPUT: true; the input reads as it did. -/
def bvDivisionMatchesSpec : ChangeSpec := { name := "bvDivisionMatches", fn := fun _ => fun
  | [d1, d2] => { results := [.lit (.bool true)], args := [d1, d2] }
  | _ => none }
def bvDivisionMatchesRow : OpenClaim := { program := "yteeckncfllbokaa", sum := "b7cbfe5621893b59d52b65d94a93b7040cf7f0deb194b9408feeb979df8bc5ac", func := "netlab/netlablaw03.BvDivisionMatches", spec := "bvDivisionMatches", unfollowed := true, recurses := true, apart := false }
def BvDivisionMatchesSaid : Prop := bvDivisionMatchesRow.holds Try.pinned (OpenSpec.ofChange bvDivisionMatchesSpec)

/-- ITS FALSE NEIGHBOUR: 'it returns false'. Refute it at one input. -/
def bvDivisionMatchesWrong : ChangeSpec := { name := "bvDivisionMatches", fn := fun _ => fun
  | [d1, d2] => { results := [.lit (.bool false)], args := [d1, d2] }
  | _ => none }
def BvDivisionMatchesWrongFalsely : Prop := bvDivisionMatchesRow.holds Try.pinned (OpenSpec.ofChange bvDivisionMatchesWrong)

/-- 'netlablaw03.BvPowMatches': WHATEVER THE INPUT: true; the input reads as it did. -/
def bvPowMatchesSpec : ChangeSpec := { name := "bvPowMatches", fn := fun _ => fun
  | [d1, d2] => { results := [.lit (.bool true)], args := [d1, d2] }
  | _ => none }
def bvPowMatchesRow : OpenClaim := { program := "yteeckncfllbokaa", sum := "b7cbfe5621893b59d52b65d94a93b7040cf7f0deb194b9408feeb979df8bc5ac", func := "netlab/netlablaw03.BvPowMatches", spec := "bvPowMatches", unfollowed := true, recurses := true, apart := false }
def BvPowMatchesSaid : Prop := bvPowMatchesRow.holds Try.pinned (OpenSpec.ofChange bvPowMatchesSpec)

/-- ITS FALSE NEIGHBOUR: 'it returns false'. Refute it at one input. -/
def bvPowMatchesWrong : ChangeSpec := { name := "bvPowMatches", fn := fun _ => fun
  | [d1, d2] => { results := [.lit (.bool false)], args := [d1, d2] }
  | _ => none }
def BvPowMatchesWrongFalsely : Prop := bvPowMatchesRow.holds Try.pinned (OpenSpec.ofChange bvPowMatchesWrong)

/-- 'netlablaw03.BvRing': WHATEVER THE INPUT: true; the input reads as it did. -/
def bvRingSpec : ChangeSpec := { name := "bvRing", fn := fun _ => fun
  | [d1, d2, d3] => { results := [.lit (.bool true)], args := [d1, d2, d3] }
  | _ => none }
def bvRingRow : OpenClaim := { program := "yteeckncfllbokaa", sum := "b7cbfe5621893b59d52b65d94a93b7040cf7f0deb194b9408feeb979df8bc5ac", func := "netlab/netlablaw03.BvRing", spec := "bvRing", unfollowed := true, recurses := true, apart := false }
def BvRingSaid : Prop := bvRingRow.holds Try.pinned (OpenSpec.ofChange bvRingSpec)

/-- ITS FALSE NEIGHBOUR: 'it returns false'. Refute it at one input. -/
def bvRingWrong : ChangeSpec := { name := "bvRing", fn := fun _ => fun
  | [d1, d2, d3] => { results := [.lit (.bool false)], args := [d1, d2, d3] }
  | _ => none }
def BvRingWrongFalsely : Prop := bvRingRow.holds Try.pinned (OpenSpec.ofChange bvRingWrong)

/-- 'netlablaw03.BvDivision': WHATEVER THE INPUT: true; the input reads as it did. -/
def bvDivisionSpec : ChangeSpec := { name := "bvDivision", fn := fun _ => fun
  | [d1, d2] => { results := [.lit (.bool true)], args := [d1, d2] }
  | _ => none }
def bvDivisionRow : OpenClaim := { program := "yteeckncfllbokaa", sum := "b7cbfe5621893b59d52b65d94a93b7040cf7f0deb194b9408feeb979df8bc5ac", func := "netlab/netlablaw03.BvDivision", spec := "bvDivision", unfollowed := true, recurses := true, apart := false }
def BvDivisionSaid : Prop := bvDivisionRow.holds Try.pinned (OpenSpec.ofChange bvDivisionSpec)

/-- ITS FALSE NEIGHBOUR: 'it returns false'. Refute it at one input. -/
def bvDivisionWrong : ChangeSpec := { name := "bvDivision", fn := fun _ => fun
  | [d1, d2] => { results := [.lit (.bool false)], args := [d1, d2] }
  | _ => none }
def BvDivisionWrongFalsely : Prop := bvDivisionRow.holds Try.pinned (OpenSpec.ofChange bvDivisionWrong)

/-- 'netlablaw03.BvPowers': WHATEVER THE INPUT: true; the input reads as it did. -/
def bvPowersSpec : ChangeSpec := { name := "bvPowers", fn := fun _ => fun
  | [d1, d2, d3] => { results := [.lit (.bool true)], args := [d1, d2, d3] }
  | _ => none }
def bvPowersRow : OpenClaim := { program := "yteeckncfllbokaa", sum := "b7cbfe5621893b59d52b65d94a93b7040cf7f0deb194b9408feeb979df8bc5ac", func := "netlab/netlablaw03.BvPowers", spec := "bvPowers", unfollowed := true, recurses := true, apart := false }
def BvPowersSaid : Prop := bvPowersRow.holds Try.pinned (OpenSpec.ofChange bvPowersSpec)

/-- ITS FALSE NEIGHBOUR: 'it returns false'. Refute it at one input. -/
def bvPowersWrong : ChangeSpec := { name := "bvPowers", fn := fun _ => fun
  | [d1, d2, d3] => { results := [.lit (.bool false)], args := [d1, d2, d3] }
  | _ => none }
def BvPowersWrongFalsely : Prop := bvPowersRow.holds Try.pinned (OpenSpec.ofChange bvPowersWrong)

/-- 'netlablaw03.BvShifts': WHATEVER THE INPUT: true; the input reads as it did. -/
def bvShiftsSpec : ChangeSpec := { name := "bvShifts", fn := fun _ => fun
  | [d1, d2, d3] => { results := [.lit (.bool true)], args := [d1, d2, d3] }
  | _ => none }
def bvShiftsRow : OpenClaim := { program := "yteeckncfllbokaa", sum := "b7cbfe5621893b59d52b65d94a93b7040cf7f0deb194b9408feeb979df8bc5ac", func := "netlab/netlablaw03.BvShifts", spec := "bvShifts", unfollowed := true, recurses := true, apart := false }
def BvShiftsSaid : Prop := bvShiftsRow.holds Try.pinned (OpenSpec.ofChange bvShiftsSpec)

/-- ITS FALSE NEIGHBOUR: 'it returns false'. Refute it at one input. -/
def bvShiftsWrong : ChangeSpec := { name := "bvShifts", fn := fun _ => fun
  | [d1, d2, d3] => { results := [.lit (.bool false)], args := [d1, d2, d3] }
  | _ => none }
def BvShiftsWrongFalsely : Prop := bvShiftsRow.holds Try.pinned (OpenSpec.ofChange bvShiftsWrong)

/-- 'netlablaw03.BvMatches': WHATEVER THE INPUT: true; the input reads as it did. -/
def bvMatchesSpec : ChangeSpec := { name := "bvMatches", fn := fun _ => fun
  | [d1, d2] => { results := [.lit (.bool true)], args := [d1, d2] }
  | _ => none }
def bvMatchesRow : OpenClaim := { program := "yteeckncfllbokaa", sum := "b7cbfe5621893b59d52b65d94a93b7040cf7f0deb194b9408feeb979df8bc5ac", func := "netlab/netlablaw03.BvMatches", spec := "bvMatches", unfollowed := true, recurses := true, apart := false }
def BvMatchesSaid : Prop := bvMatchesRow.holds Try.pinned (OpenSpec.ofChange bvMatchesSpec)

/-- ITS FALSE NEIGHBOUR: 'it returns false'. Refute it at one input. -/
def bvMatchesWrong : ChangeSpec := { name := "bvMatches", fn := fun _ => fun
  | [d1, d2] => { results := [.lit (.bool false)], args := [d1, d2] }
  | _ => none }
def BvMatchesWrongFalsely : Prop := bvMatchesRow.holds Try.pinned (OpenSpec.ofChange bvMatchesWrong)

/-- 'netlablaw03.BvShiftMatches': WHATEVER THE INPUT: true; the input reads as it did. -/
def bvShiftMatchesSpec : ChangeSpec := { name := "bvShiftMatches", fn := fun _ => fun
  | [d1, d2, d3, d4] => { results := [.lit (.bool true)], args := [d1, d2, d3, d4] }
  | _ => none }
def bvShiftMatchesRow : OpenClaim := { program := "yteeckncfllbokaa", sum := "b7cbfe5621893b59d52b65d94a93b7040cf7f0deb194b9408feeb979df8bc5ac", func := "netlab/netlablaw03.BvShiftMatches", spec := "bvShiftMatches", unfollowed := true, recurses := true, apart := false }
def BvShiftMatchesSaid : Prop := bvShiftMatchesRow.holds Try.pinned (OpenSpec.ofChange bvShiftMatchesSpec)

/-- ITS FALSE NEIGHBOUR: 'it returns false'. Refute it at one input. -/
def bvShiftMatchesWrong : ChangeSpec := { name := "bvShiftMatches", fn := fun _ => fun
  | [d1, d2, d3, d4] => { results := [.lit (.bool false)], args := [d1, d2, d3, d4] }
  | _ => none }
def BvShiftMatchesWrongFalsely : Prop := bvShiftMatchesRow.holds Try.pinned (OpenSpec.ofChange bvShiftMatchesWrong)

/-- 'netlablaw03.BvExamples': WHATEVER THE INPUT: true; the input reads as it did. -/
def bvExamplesSpec : ChangeSpec := { name := "bvExamples", fn := fun _ => fun
  | [] => { results := [.lit (.bool true)], args := [] }
  | _ => none }
def bvExamplesRow : OpenClaim := { program := "yteeckncfllbokaa", sum := "b7cbfe5621893b59d52b65d94a93b7040cf7f0deb194b9408feeb979df8bc5ac", func := "netlab/netlablaw03.BvExamples", spec := "bvExamples", unfollowed := true, recurses := true, apart := false }
def BvExamplesSaid : Prop := bvExamplesRow.holds Try.pinned (OpenSpec.ofChange bvExamplesSpec)

/-- ITS FALSE NEIGHBOUR: 'it returns false'. Refute it at one input. -/
def bvExamplesWrong : ChangeSpec := { name := "bvExamples", fn := fun _ => fun
  | [] => { results := [.lit (.bool false)], args := [] }
  | _ => none }
def BvExamplesWrongFalsely : Prop := bvExamplesRow.holds Try.pinned (OpenSpec.ofChange bvExamplesWrong)

/-- 'netlablaw03.BvWords': WHATEVER THE INPUT: true; the input reads as it did. -/
def bvWordsSpec : ChangeSpec := { name := "bvWords", fn := fun _ => fun
  | [d1, d2, d3, d4] => { results := [.lit (.bool true)], args := [d1, d2, d3, d4] }
  | _ => none }
def bvWordsRow : OpenClaim := { program := "yteeckncfllbokaa", sum := "b7cbfe5621893b59d52b65d94a93b7040cf7f0deb194b9408feeb979df8bc5ac", func := "netlab/netlablaw03.BvWords", spec := "bvWords", unfollowed := true, recurses := true, apart := false }
def BvWordsSaid : Prop := bvWordsRow.holds Try.pinned (OpenSpec.ofChange bvWordsSpec)

/-- ITS FALSE NEIGHBOUR: 'it returns false'. Refute it at one input. -/
def bvWordsWrong : ChangeSpec := { name := "bvWords", fn := fun _ => fun
  | [d1, d2, d3, d4] => { results := [.lit (.bool false)], args := [d1, d2, d3, d4] }
  | _ => none }
def BvWordsWrongFalsely : Prop := bvWordsRow.holds Try.pinned (OpenSpec.ofChange bvWordsWrong)

/- THE SECOND FORM. 'bulk': how many values and letters a reading holds, each counted each time it is reached (what is shared counts as often as it is met; a slice's spare places count too). A statement '..UptoSaid' is the law's where the arguments, and the package variables that the reading takes, are together of bulk at most 1048576: NARROWER than '..Said'. Prove '..Said' where nothing that the law and all that it calls make is longer than what came in: it says more and counts as full. Else prove '..UptoSaid'. A law counts once. -/
mutual
def uptoBulk {H : Type} : DataW H → Nat
  | .lit (.string bytes) => bytes.length + 1
  | .lit _ => 1
  | .nil => 1
  | .ptr d => uptoBulk d + 1
  | .slice elems spare => uptoBulkAll elems + uptoBulkAll spare + 1
  | .agg parts => uptoBulkAll parts + 1
  | .iface _ d => uptoBulk d + 1
  | .map entries => uptoBulkEntries entries + 1
  | .held _ => 1
def uptoBulkAll {H : Type} : List (DataW H) → Nat
  | [] => 0
  | d :: r => uptoBulk d + uptoBulkAll r
def uptoBulkEntries {H : Type} : List (Lit × DataW H) → Nat
  | [] => 0
  | x :: r => uptoBulkEntry x + uptoBulkEntries r
def uptoBulkEntry {H : Type} : Lit × DataW H → Nat
  | (.string bytes, d) => bytes.length + uptoBulk d + 1
  | (_, d) => uptoBulk d + 1
 end
def uptoSmall : (H : Type) → List (DataW H) → Bool := fun _ ds => decide (uptoBulkAll ds ≤ 1048576)
def OpenSpec.upto (s : _root_.Go.ChangeSpec) : _root_.Go.OpenSpec := { _root_.Go.OpenSpec.ofChange s with cond := some uptoSmall }

/-- 'netlablaw03.BvDivisionMatches', WHERE WHAT IT READS IS OF BULK AT MOST 1048576: true; the input reads as it did. -/
def bvDivisionMatchesUptoRow : OpenClaim := { program := "yteeckncfllbokaa", sum := "b7cbfe5621893b59d52b65d94a93b7040cf7f0deb194b9408feeb979df8bc5ac", func := "netlab/netlablaw03.BvDivisionMatches", spec := "bvDivisionMatches", unfollowed := true, recurses := true, apart := false, narrowed := true }
def BvDivisionMatchesUptoSaid : Prop := bvDivisionMatchesUptoRow.holds Try.pinned (OpenSpec.upto bvDivisionMatchesSpec)

/-- 'netlablaw03.BvPowMatches', WHERE WHAT IT READS IS OF BULK AT MOST 1048576: true; the input reads as it did. -/
def bvPowMatchesUptoRow : OpenClaim := { program := "yteeckncfllbokaa", sum := "b7cbfe5621893b59d52b65d94a93b7040cf7f0deb194b9408feeb979df8bc5ac", func := "netlab/netlablaw03.BvPowMatches", spec := "bvPowMatches", unfollowed := true, recurses := true, apart := false, narrowed := true }
def BvPowMatchesUptoSaid : Prop := bvPowMatchesUptoRow.holds Try.pinned (OpenSpec.upto bvPowMatchesSpec)

/-- 'netlablaw03.BvRing', WHERE WHAT IT READS IS OF BULK AT MOST 1048576: true; the input reads as it did. -/
def bvRingUptoRow : OpenClaim := { program := "yteeckncfllbokaa", sum := "b7cbfe5621893b59d52b65d94a93b7040cf7f0deb194b9408feeb979df8bc5ac", func := "netlab/netlablaw03.BvRing", spec := "bvRing", unfollowed := true, recurses := true, apart := false, narrowed := true }
def BvRingUptoSaid : Prop := bvRingUptoRow.holds Try.pinned (OpenSpec.upto bvRingSpec)

/-- 'netlablaw03.BvDivision', WHERE WHAT IT READS IS OF BULK AT MOST 1048576: true; the input reads as it did. -/
def bvDivisionUptoRow : OpenClaim := { program := "yteeckncfllbokaa", sum := "b7cbfe5621893b59d52b65d94a93b7040cf7f0deb194b9408feeb979df8bc5ac", func := "netlab/netlablaw03.BvDivision", spec := "bvDivision", unfollowed := true, recurses := true, apart := false, narrowed := true }
def BvDivisionUptoSaid : Prop := bvDivisionUptoRow.holds Try.pinned (OpenSpec.upto bvDivisionSpec)

/-- 'netlablaw03.BvPowers', WHERE WHAT IT READS IS OF BULK AT MOST 1048576: true; the input reads as it did. -/
def bvPowersUptoRow : OpenClaim := { program := "yteeckncfllbokaa", sum := "b7cbfe5621893b59d52b65d94a93b7040cf7f0deb194b9408feeb979df8bc5ac", func := "netlab/netlablaw03.BvPowers", spec := "bvPowers", unfollowed := true, recurses := true, apart := false, narrowed := true }
def BvPowersUptoSaid : Prop := bvPowersUptoRow.holds Try.pinned (OpenSpec.upto bvPowersSpec)

/-- 'netlablaw03.BvShifts', WHERE WHAT IT READS IS OF BULK AT MOST 1048576: true; the input reads as it did. -/
def bvShiftsUptoRow : OpenClaim := { program := "yteeckncfllbokaa", sum := "b7cbfe5621893b59d52b65d94a93b7040cf7f0deb194b9408feeb979df8bc5ac", func := "netlab/netlablaw03.BvShifts", spec := "bvShifts", unfollowed := true, recurses := true, apart := false, narrowed := true }
def BvShiftsUptoSaid : Prop := bvShiftsUptoRow.holds Try.pinned (OpenSpec.upto bvShiftsSpec)

/-- 'netlablaw03.BvMatches', WHERE WHAT IT READS IS OF BULK AT MOST 1048576: true; the input reads as it did. -/
def bvMatchesUptoRow : OpenClaim := { program := "yteeckncfllbokaa", sum := "b7cbfe5621893b59d52b65d94a93b7040cf7f0deb194b9408feeb979df8bc5ac", func := "netlab/netlablaw03.BvMatches", spec := "bvMatches", unfollowed := true, recurses := true, apart := false, narrowed := true }
def BvMatchesUptoSaid : Prop := bvMatchesUptoRow.holds Try.pinned (OpenSpec.upto bvMatchesSpec)

/-- 'netlablaw03.BvShiftMatches', WHERE WHAT IT READS IS OF BULK AT MOST 1048576: true; the input reads as it did. -/
def bvShiftMatchesUptoRow : OpenClaim := { program := "yteeckncfllbokaa", sum := "b7cbfe5621893b59d52b65d94a93b7040cf7f0deb194b9408feeb979df8bc5ac", func := "netlab/netlablaw03.BvShiftMatches", spec := "bvShiftMatches", unfollowed := true, recurses := true, apart := false, narrowed := true }
def BvShiftMatchesUptoSaid : Prop := bvShiftMatchesUptoRow.holds Try.pinned (OpenSpec.upto bvShiftMatchesSpec)

/-- 'netlablaw03.BvExamples', WHERE WHAT IT READS IS OF BULK AT MOST 1048576: true; the input reads as it did. -/
def bvExamplesUptoRow : OpenClaim := { program := "yteeckncfllbokaa", sum := "b7cbfe5621893b59d52b65d94a93b7040cf7f0deb194b9408feeb979df8bc5ac", func := "netlab/netlablaw03.BvExamples", spec := "bvExamples", unfollowed := true, recurses := true, apart := false, narrowed := true }
def BvExamplesUptoSaid : Prop := bvExamplesUptoRow.holds Try.pinned (OpenSpec.upto bvExamplesSpec)

/-- 'netlablaw03.BvWords', WHERE WHAT IT READS IS OF BULK AT MOST 1048576: true; the input reads as it did. -/
def bvWordsUptoRow : OpenClaim := { program := "yteeckncfllbokaa", sum := "b7cbfe5621893b59d52b65d94a93b7040cf7f0deb194b9408feeb979df8bc5ac", func := "netlab/netlablaw03.BvWords", spec := "bvWords", unfollowed := true, recurses := true, apart := false, narrowed := true }
def BvWordsUptoSaid : Prop := bvWordsUptoRow.holds Try.pinned (OpenSpec.upto bvWordsSpec)

end Rows
end Go.Proofs.Yteeckncfllbokaa
