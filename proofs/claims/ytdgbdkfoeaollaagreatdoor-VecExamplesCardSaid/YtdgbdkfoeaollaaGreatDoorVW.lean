/- awake: the kernel runs it once. -/
import Derived.Test.YtdgbdkfoeaollaaGreatDoorVA
import Derived.Test.YtdgbdkfoeaollaaGreatDoorALe
set_option linter.unusedSimpArgs false
set_option linter.unusedVariables false
namespace Go.Proofs.YtdgbdkfoeaollaaGreatDoor.V
open Go Go.AL Go.SX
def H0:AH:=⟨((((T.nil.set 3 (⟨intV xorsL,1⟩:Blk)).set 2 ⟨intV andsL,1⟩).set 1 ⟨intV notsL,1⟩).set 0 ⟨intV orsL,1⟩),4,4⟩
theorem gl0:Gl TB H0:=fun k l hk=>by
 match k,hk with
 | 0,hk=>obtain rfl:=Option.some.inj hk;exact ⟨(by decide:0<4),rfl⟩
 | 1,hk=>obtain rfl:=Option.some.inj hk;exact ⟨(by decide:1<4),rfl⟩
 | 2,hk=>obtain rfl:=Option.some.inj hk;exact ⟨(by decide:2<4),rfl⟩
 | 3,hk=>obtain rfl:=Option.some.inj hk;exact ⟨(by decide:3<4),rfl⟩
theorem awake_run:trueR (evF IR.ft extK 1000 11 [] H0)=true:=by kernel_rfl
theorem awake_ok:FvC CX TB (.f 11 [] []) [] [] (RB true):=closed_true (H0:=H0) (ext:=extK) (ft:=IR.ft) (N:=1000) ⟨rfl,rfl⟩ gl0 rfl rfl awake_run
end Go.Proofs.YtdgbdkfoeaollaaGreatDoor.V
