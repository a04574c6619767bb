/- VecExamples: entries 48 to 48 (printed by VEx.py). -/
import Derived.Test.YtdgbdkfoeaollaaGreatDoorVExS
set_option linter.unusedSimpArgs false
set_option linter.unusedVariables false
set_option cbv.maxSteps 4000000
set_option maxRecDepth 100000
set_option maxHeartbeats 8000000
namespace Go.Proofs.YtdgbdkfoeaollaaGreatDoor.V
open Go Go.AL Go.SX
theorem ex_c8 {B:AH} {d:Nat→Prop} (Z:Nat→List Int) (S:Nat→Bool) (hZ:Z=exZ) (hS:S=exS):Pu B ⟨d,fun _=>none⟩ ((exOps.drop 233).take 4) (stE8 Z S) fun s'=>Le s' (stE9 Z S):=by
 have e100:Z 100=List.replicate 129 1:=by rw [hZ];rfl
 have e101:Z 101=[0,4]:=by rw [hZ];rfl
 have g100:S 100=false:=by rw [hS];rfl
 have g101:S 101=true:=by rw [hS];rfl
 have l100:(Z 100).length<2^14:=by rw [e100,List.length_replicate];decide
 have l101:(Z 101).length<2^14:=by rw [e101];decide
 have b100:Byt (Z 100):=by rw [e100];exact rep_byt (by decide)
 have b101:Byt (Z 101):=by rw [e101];unfold Byt;decide
 have l0:([]:List Int).length<2^14:=by decide
 have b0:Byt ([]:List Int):=fun x hx=>by cases hx
 obtain ⟨G,hG⟩:∃ G,G=std CX TB B ⟨d,fun _=>none⟩:=⟨_,rfl⟩
 refine pu_W hG fun K hK=>?_
 cbv
 refine call hG [] (withSign_ok (Z 101) (S 101) true (by omega)) ⟨rfl,rfl,rfl⟩ ?_
 rintro _ _ ⟨A186,a186,rfl,rfl,hA186,ha186⟩
 cbv
 have eZ:A186=Z 48:=by rw [hA186];simp only [e101,g101];rw [hZ];kernel_rfl
 have eS:a186=S 48:=by rw [ha186];(try simp only [e101,g101]);rw [hS];kernel_rfl
 clear hA186 ha186
 subst eZ eS
 refine call hG [] (sof_ok ⟨#[120]⟩ (by decide)) ⟨rfl,rfl,rfl⟩ ?_
 rintro _ _ ⟨A187,a187,rfl,rfl,hA187,ha187⟩
 cbv
 have eZ:A187=Z 48:=by rw [hA187,hZ];kernel_rfl
 have eS:a187=S 48:=by rw [ha187,hS];kernel_rfl
 clear hA187 ha187
 subst eZ eS
 exact hK _ _ rfl (by constructor<;>cbv<;>simp)
end Go.Proofs.YtdgbdkfoeaollaaGreatDoor.V
