/- The shifts by name; Pow. -/
import Derived.Test.YtdgbdkfoeaollaaGreatDoorVZc
import Derived.Test.YtdgbdkfoeaollaaGreatDoorALe
set_option linter.unusedSimpArgs false
set_option linter.unusedVariables false
set_option maxRecDepth 100000
set_option cbv.maxSteps 4000000
set_option maxHeartbeats 4000000
namespace Go.Proofs.YtdgbdkfoeaollaaGreatDoor.V
open Go Go.AL Go.SX
theorem ite_t {B:AH} {D:Bs} {G:Sg} (hG:G=std CX TB B D) {c:Bool} {P Q:Prop} (hc:c=true) (h:P):G.ite c P Q:=by
 subst hG hc;exact ⟨fun _=>h,fun h=>(by cases h)⟩
theorem ite_f {B:AH} {D:Bs} {G:Sg} (hG:G=std CX TB B D) {c:Bool} {P Q:Prop} (hc:c=false) (h:Q):G.ite c P Q:=by
 subst hG hc;exact ⟨fun h=>(by cases h),fun _=>h⟩
end Go.Proofs.YtdgbdkfoeaollaaGreatDoor.V
