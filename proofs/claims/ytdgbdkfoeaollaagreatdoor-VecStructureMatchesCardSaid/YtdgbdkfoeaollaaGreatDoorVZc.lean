/- Comparisons and shifts. -/
import Derived.Test.YtdgbdkfoeaollaaGreatDoorVA
import Derived.Test.YtdgbdkfoeaollaaGreatDoorALe
set_option linter.unusedSimpArgs false
set_option linter.unusedVariables false
set_option maxRecDepth 100000
namespace Go.Proofs.YtdgbdkfoeaollaaGreatDoor.V
open Go Go.AL Go.SX
def shN (n:Nat) (y:List Int):Nat:=if X.val (boolL y)<n then X.val (boolL y) else n
def shF (L:List Int) (dir:Int) (n:Nat) (f:Int) (i:Nat):Int:=if 0≤(i:Int)+dir*(n:Int)∧(i:Int)+dir*(n:Int)<(L.length:Int) then gu L ((i:Int)+dir*(n:Int)) else f
def shL (dir:Int) (fr:List Int→Bool→Int) (l:List Int) (s:Bool) (m:List Int):List Int:=
 if kn (nB m) then (List.range (nB l).length).map (shF (nB l) dir (shN (nB l).length (nB m)) (fr (nB l) (nS l s))) else List.replicate (nB l).length 2
end Go.Proofs.YtdgbdkfoeaollaaGreatDoor.V
