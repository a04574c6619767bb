/- VecExamples: the entries in a slice (printed by VEx.py). -/
import Derived.Test.YtdgbdkfoeaollaaGreatDoorVExS
set_option linter.unusedSimpArgs false
set_option linter.unusedVariables false
set_option cbv.maxSteps 4000000
set_option maxRecDepth 100000
set_option maxHeartbeats 8000000
namespace Go.Proofs.YtdgbdkfoeaollaaGreatDoor.V
open Go Go.AL Go.SX
theorem ex_cT {B:AH} {d:Nat→Prop} (Z:Nat→List Int) (S:Nat→Bool):Pu B ⟨d,fun _=>none⟩ (exOps.drop 237) (stE9 Z S) fun s'=>Le s' (stEL Z S 0):=by
 obtain ⟨G,hG⟩:∃ G,G=std CX TB B ⟨d,fun _=>none⟩:=⟨_,rfl⟩
 refine pu_W hG fun K hK=>?_
 cbv
 exact hK _ _ rfl (by constructor<;>cbv<;>simp)
end Go.Proofs.YtdgbdkfoeaollaaGreatDoor.V
