-- Written by a program of this session (wip/tools/drive.py) over the kit's print.py.
import Derived.Test.YteioheookffjiaaDoorProg
import Derived.Below
import Derived.Deep.Draws
import Derived.Deep.AppendLies
import Derived.Maps.AppendAt
import Derived.OwnWalk
import Derived.Laws.BytesArg
import Derived.Laws.MakeOwn
import Derived.Laws.OwnMore
import Derived.Deep.OwnRows
import Derived.Tactics
import Derived.Lib.ConvBytes
import Derived.Laws.Slices
import Derived.WalkKit
import Derived.KernelRfl
import Derived.RowKit3
import Derived.Deep.LoopGhost
import Derived.Deep.QuietTactic
import Derived.BigQuiet
import Derived.WideLaws
import Derived.Deep.DeepCutAuto
import Derived.Deep.CutBlock
import Derived.Deep.RegionHeld3
import Derived.Laws.Rows
import Derived.Lib.AppendStr
import Derived.ArgAppend
import Derived.Laws.IdiomCopy
import Derived.OrdersHeld
import Derived.Laws.BitsLemmas
import Derived.RowKit
import Derived.Test.YteioheookffjiaaDoorWWords
import Derived.Test.YteioheookffjiaaDoorWLast
import Derived.Test.YteioheookffjiaaDoorWTab
import Derived.Test.YteioheookffjiaaDoorWFour
import Derived.Test.YteioheookffjiaaDoorWQPut
import Derived.Test.YteioheookffjiaaDoorWApart
import Derived.Test.YteioheookffjiaaDoorWArr
import Derived.Test.YteioheookffjiaaDoorWZeros
import Derived.Test.YteioheookffjiaaDoorWFoot
import Derived.Test.YteioheookffjiaaDoorWKept
import Derived.Test.YteioheookffjiaaDoorWShare
import Derived.Test.YteioheookffjiaaDoorWN
import Derived.Test.YteioheookffjiaaDoorWFootNe
import Derived.Test.YteioheookffjiaaDoorWAt
import Derived.Test.YteioheookffjiaaDoorWEqStruct
import Derived.Test.YteioheookffjiaaDoorWRepsOne
import Derived.Test.YteioheookffjiaaDoorWInv
import Derived.Test.YteioheookffjiaaDoorWInvWords
import Derived.Test.YteioheookffjiaaDoorWGuard
import Derived.Test.YteioheookffjiaaDoorWNEv
import Derived.Test.YteioheookffjiaaDoorWMore
namespace Go.Proofs.YteioheookffjiaaDoor.F
open Go.RowKit Go.Proofs.YteioheookffjiaaDoorW.PrintWords Go.Proofs.YteioheookffjiaaDoorW.PrintLast Go.Proofs.YteioheookffjiaaDoorW.PrintMore
attribute [local go_sem] max2_int min2_int max_two min_two max_three min_three max_four min_four   -- for this text's walks alone
set_option linter.unusedVariables false
set_option linter.unusedSimpArgs false



def errW : Option Int → Value
  | none => .nilIface
  | some c => .iface 0 (.int .i64 c)
theorem errW_none : errW none = .nilIface := rfl
theorem errW_some (c : Int) : errW (some c) = .iface 0 (.int .i64 c) := rfl

/-- What the package's four tables hold. -/
def andsL : List Int := [0, 0, 0, 0, 0, 1, 2, 2, 0, 2, 2, 2, 0, 2, 2, 2]
def orsL : List Int := [0, 1, 2, 2, 1, 1, 1, 1, 2, 1, 2, 2, 2, 1, 2, 2]
def xorsL : List Int := [0, 1, 2, 2, 1, 0, 2, 2, 2, 2, 2, 2, 2, 2, 2, 2]
def notsL : List Int := [1, 0, 2, 2]
/-- A table in a package-level variable's block. -/
def TabAt (w : World) (g : Nat) (zs : List Int) : Prop := ∀ i, i < zs.length → w.cell? ⟨g, i, none⟩ = some (.int .u8 (zs.getD i 0))
structure Glob (w : World) : Prop where
  nots : TabAt w 0 notsL
  ands : TabAt w 1 andsL
  ors : TabAt w 2 orsL
  xors : TabAt w 3 xorsL
theorem TabAt.below {w w1 : World} {g : Nat} {zs : List Int} (h : TabAt w g zs) (hb : Below w.heap.size w w1) : TabAt w1 g zs := fun i hi => pw_cell_below hb (h i hi)
theorem Glob.below {w w1 : World} (h : Glob w) (hb : Below w.heap.size w w1) : Glob w1 := ⟨h.nots.below hb, h.ands.below hb, h.ors.below hb, h.xors.below hb⟩
theorem Glob.drewN {w : World} (h : Glob w) (n : Nat) : Glob (w.drewN n) := h.below (pw_below_drewN (Below.refl _ _) n)
theorem Glob.drew {w : World} (h : Glob w) : Glob w.drew := h.below (below_drew (Below.refl _ _))
theorem TabAt.rd {w : World} {g : Nat} {zs : List Int} (h : TabAt w g zs) (i : Int) (h1 : i < (zs.length : Int)) (h0 : 0 ≤ i) : w.cell? ⟨g, i.toNat, none⟩ = some (.int .u8 (rd zs i)) := h i.toNat (by omega)

-- the values' own types

end Go.Proofs.YteioheookffjiaaDoor.F
