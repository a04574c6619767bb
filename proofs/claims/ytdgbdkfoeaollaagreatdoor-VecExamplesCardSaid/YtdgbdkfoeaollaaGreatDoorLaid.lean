/- What the listed package variables give: from the row's condition to the four tables (and: the door's own heap meets the condition). -/
import Derived.Test.YtdgbdkfoeaollaaGreatDoorRows
import Derived.Test.YtdgbdkfoeaollaaGreatDoorALc
import Derived.ProofKit
import Derived.LaidMore
import Derived.Lib.LaidTab
import Derived.Stop.Joined
import Derived.Stop.LaidErr
namespace Go.Proofs.YtdgbdkfoeaollaaGreatDoor
open Go Go.RowKit
def andsL:List Int:=[0,0,0,0,0,1,2,2,0,2,2,2,0,2,2,2]
def orsL:List Int:=[0,1,2,2,1,1,1,1,2,1,2,2,2,1,2,2]
def xorsL:List Int:=[0,1,2,2,1,0,2,2,2,2,2,2,2,2,2,2]
def notsL:List Int:=[1,0,2,2]
def u8s (l:List Int):List Value:=l.map fun n=>.int .u8 n
structure Glob (w:World):Prop where
 nots:AL.TabAt w 1 (u8s notsL)
 ands:AL.TabAt w 2 (u8s andsL)
 ors:AL.TabAt w 0 (u8s orsL)
 xors:AL.TabAt w 3 (u8s xorsL)
theorem tab_of {w:World} {g:Nat} {zs:List Int} (h:∀ i,i<zs.length→w.cell? ⟨g,i,none⟩=some (.int .u8 (zs.getD i 0))):AL.TabAt w g (u8s zs):=fun i v hv=>by
 unfold u8s at hv
 rw [List.getElem?_map,Option.map_eq_some_iff] at hv
 obtain ⟨n,hn,rfl⟩:=hv
 have hi:=(List.getElem?_eq_some_iff.1 hn).1
 rw [h i hi,List.getD_eq_getElem?_getD,hn]
 rfl
theorem gAnds : Tryz.prog.globalNamed "netlab/bit.ands" = some 2 := by kernel_rfl
theorem gOrs : Tryz.prog.globalNamed "netlab/bit.ors" = some 0 := by kernel_rfl
theorem gXors : Tryz.prog.globalNamed "netlab/bit.xors" = some 3 := by kernel_rfl
theorem gNots : Tryz.prog.globalNamed "netlab/bit.nots" = some 1 := by kernel_rfl
theorem tAnds:(Tryz.prog.globals[2]?).map (·.type)=some 115:=by kernel_rfl
theorem tOrs:(Tryz.prog.globals[0]?).map (·.type)=some 115:=by kernel_rfl
theorem tXors:(Tryz.prog.globals[3]?).map (·.type)=some 115:=by kernel_rfl
theorem tNots:(Tryz.prog.globals[1]?).map (·.type)=some 121:=by kernel_rfl
theorem ce8:Tryz.prog.cellsOf 39=1:=by kernel_rfl
theorem c16:Tryz.prog.cellsOf 115=16:=by kernel_rfl
theorem c4:Tryz.prog.cellsOf 121=4:=by kernel_rfl
abbrev LST : List (String × DataW Unit) := [("netlab/bit.ands", Rows.laid_netlab_bit_ands), ("netlab/bit.ors", Rows.laid_netlab_bit_ors), ("netlab/bit.xors", Rows.laid_netlab_bit_xors), ("netlab/bit.nots", Rows.laid_netlab_bit_nots)]
theorem door_met (os:Os) (args:Array Value):laidMetH Tryz.prog LST ((World.doorLaid Tryz.prog 400 os).forCall (fun _ _=>0) ⟨#[],args,[]⟩).memory:=
 laidMetH_of_parts3 (fuel:=8) (laidMet_of_run' 8 (by kernel_rfl) (by kernel_rfl)) (by kernel_rfl) (by kernel_rfl)
theorem glob_of_laid {W:World} (h:laidMetH Tryz.prog LST W):Glob W:=by
 rw [MakeChecks.laidMetH_plain _ _ _ (by kernel_rfl)] at h
 have h1:=Lib.tabIs_of_head (k:=.u8) (zs:=andsL) gAnds tAnds Tryz.underlying115 Tryz.underlying39 ce8 c16 h
 have h:=h.tail
 have h2:=Lib.tabIs_of_head (k:=.u8) (zs:=orsL) gOrs tOrs Tryz.underlying115 Tryz.underlying39 ce8 c16 h
 have h:=h.tail
 have h3:=Lib.tabIs_of_head (k:=.u8) (zs:=xorsL) gXors tXors Tryz.underlying115 Tryz.underlying39 ce8 c16 h
 have h:=h.tail
 have h4:=Lib.tabIs_of_head (k:=.u8) (zs:=notsL) gNots tNots Tryz.underlying121 Tryz.underlying39 ce8 c4 h
 exact ⟨tab_of fun i hi=>h4.cell gNots i hi,tab_of fun i hi=>h1.cell gAnds i hi,tab_of fun i hi=>h2.cell gOrs i hi,tab_of fun i hi=>h3.cell gXors i hi⟩
end Go.Proofs.YtdgbdkfoeaollaaGreatDoor
