/- What the listed package variables give: from the row's condition to the four tables (and: the door's own heap meets the condition). -/
import Derived.Test.YteioheookffjiaaDoorRows
import Derived.Test.YteioheookffjiaaDoorF0
import Derived.ProofKit
import Derived.LaidMore
import Derived.Lib.LaidTab
import Derived.Stop.Joined
import Derived.Stop.LaidErr
namespace Go.Proofs.YteioheookffjiaaDoor
open Go.RowKit
theorem gAnds : Tryd.prog.globalNamed "netlab/bit.ands" = some 1 := by kernel_rfl
theorem gOrs : Tryd.prog.globalNamed "netlab/bit.ors" = some 2 := by kernel_rfl
theorem gXors : Tryd.prog.globalNamed "netlab/bit.xors" = some 3 := by kernel_rfl
theorem gNots : Tryd.prog.globalNamed "netlab/bit.nots" = some 0 := by kernel_rfl
theorem tAnds : (Tryd.prog.globals[1]?).map (·.type) = some 42 := by kernel_rfl
theorem tOrs : (Tryd.prog.globals[2]?).map (·.type) = some 42 := by kernel_rfl
theorem tXors : (Tryd.prog.globals[3]?).map (·.type) = some 42 := by kernel_rfl
theorem tNots : (Tryd.prog.globals[0]?).map (·.type) = some 41 := by kernel_rfl
theorem c22 : Tryd.prog.cellsOf 22 = 1 := by kernel_rfl
theorem c42 : Tryd.prog.cellsOf 42 = 16 := by kernel_rfl
theorem c41 : Tryd.prog.cellsOf 41 = 4 := by kernel_rfl
abbrev LST : List (String × DataW Unit) := [("netlab/bit.ands", Rows.laid_netlab_bit_ands), ("netlab/bit.ors", Rows.laid_netlab_bit_ors), ("netlab/bit.xors", Rows.laid_netlab_bit_xors), ("netlab/bit.nots", Rows.laid_netlab_bit_nots)]
theorem door_met (os : Os) (args : Array Value) : laidMetH Tryd.prog LST ((World.doorLaid Tryd.prog 400 os).forCall (fun _ _ => 0) ⟨#[], args, []⟩).memory :=
  laidMetH_of_parts3 (fuel := 8) (laidMet_of_run' 8 (by kernel_rfl) (by kernel_rfl)) (by kernel_rfl) (by kernel_rfl)
theorem glob_of_laid {W : World} (h : laidMetH Tryd.prog LST W) : F.Glob W := by
  rw [MakeChecks.laidMetH_plain _ _ _ (by kernel_rfl)] at h
  have h1 := Lib.tabIs_of_head (k := .u8) (zs := F.andsL) gAnds tAnds Tryd.underlying42 Tryd.underlying22 c22 c42 h
  have h := h.tail
  have h2 := Lib.tabIs_of_head (k := .u8) (zs := F.orsL) gOrs tOrs Tryd.underlying42 Tryd.underlying22 c22 c42 h
  have h := h.tail
  have h3 := Lib.tabIs_of_head (k := .u8) (zs := F.xorsL) gXors tXors Tryd.underlying42 Tryd.underlying22 c22 c42 h
  have h := h.tail
  have h4 := Lib.tabIs_of_head (k := .u8) (zs := F.notsL) gNots tNots Tryd.underlying41 Tryd.underlying22 c22 c41 h
  exact ⟨fun i hi => h4.cell gNots i hi, fun i hi => h1.cell gAnds i hi, fun i hi => h2.cell gOrs i hi, fun i hi => h3.cell gXors i hi⟩
end Go.Proofs.YteioheookffjiaaDoor
