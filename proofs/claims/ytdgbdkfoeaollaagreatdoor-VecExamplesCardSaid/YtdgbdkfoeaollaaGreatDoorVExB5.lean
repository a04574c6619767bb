/- VecExamples: entries 30 to 35 (printed by VEx.py). -/
import Derived.Test.YtdgbdkfoeaollaaGreatDoorVExS
set_option linter.unusedSimpArgs false
set_option linter.unusedVariables false
set_option cbv.maxSteps 4000000
set_option maxRecDepth 100000
set_option maxHeartbeats 8000000
namespace Go.Proofs.YtdgbdkfoeaollaaGreatDoor.V
open Go Go.AL Go.SX
theorem ex_c5 {B:AH} {d:Nat→Prop} (Z:Nat→List Int) (S:Nat→Bool) (hZ:Z=exZ) (hS:S=exS):Pu B ⟨d,fun _=>none⟩ ((exOps.drop 144).take 26) (stE5 Z S) fun s'=>Le s' (stE6 Z S):=by
 have e100:Z 100=List.replicate 129 1:=by rw [hZ];rfl
 have e101:Z 101=[0,4]:=by rw [hZ];rfl
 have g100:S 100=false:=by rw [hS];rfl
 have g101:S 101=true:=by rw [hS];rfl
 have l100:(Z 100).length<2^14:=by rw [e100,List.length_replicate];decide
 have l101:(Z 101).length<2^14:=by rw [e101];decide
 have b100:Byt (Z 100):=by rw [e100];exact rep_byt (by decide)
 have b101:Byt (Z 101):=by rw [e101];unfold Byt;decide
 have l0:([]:List Int).length<2^14:=by decide
 have b0:Byt ([]:List Int):=fun x hx=>by cases hx
 obtain ⟨G,hG⟩:∃ G,G=std CX TB B ⟨d,fun _=>none⟩:=⟨_,rfl⟩
 refine pu_W hG fun K hK=>?_
 cbv
 refine call hG [] (of_ok ⟨#[49,48]⟩ (by decide)) ⟨rfl,rfl,rfl⟩ ?_
 rintro _ _ ⟨A115,a115,rfl,rfl,hA115,ha115⟩
 cbv
 have lA115:A115.length<2^14:=by rw [hA115,ofL_len];decide
 have bA115:Byt A115:=by rw [hA115];exact ofL_byt _
 refine call hG [] (kv1 (redXnor_ok A115 a115 (by omega) bA115)) ⟨rfl,rfl,rfl⟩ ?_
 rintro _ _ ⟨A116,a116,rfl,rfl,hA116,ha116⟩
 cbv
 have eZ:A116=Z 30:=by rw [hA116];simp only [hA115,ha115];rw [hZ];kernel_rfl
 have eS:a116=S 30:=by rw [ha116];(try simp only [hA115,ha115]);rw [hS];kernel_rfl
 clear hA116 ha116
 subst eZ eS
 refine call hG [] (of_ok ⟨#[48]⟩ (by decide)) ⟨rfl,rfl,rfl⟩ ?_
 rintro _ _ ⟨A117,a117,rfl,rfl,hA117,ha117⟩
 cbv
 have eZ:A117=Z 30:=by rw [hA117,hZ];kernel_rfl
 have eS:a117=S 30:=by rw [ha117,hS];kernel_rfl
 clear hA117 ha117
 subst eZ eS
 refine call hG [] (of_ok ⟨#[120,48]⟩ (by decide)) ⟨rfl,rfl,rfl⟩ ?_
 rintro _ _ ⟨A118,a118,rfl,rfl,hA118,ha118⟩
 cbv
 have lA118:A118.length<2^14:=by rw [hA118,ofL_len];decide
 have bA118:Byt A118:=by rw [hA118];exact ofL_byt _
 refine call hG [] (kv1 (lnot_ok A118 a118 (by omega) bA118)) ⟨rfl,rfl,rfl⟩ ?_
 rintro _ _ ⟨A119,a119,rfl,rfl,hA119,ha119⟩
 cbv
 have eZ:A119=Z 31:=by rw [hA119];simp only [hA118,ha118];rw [hZ];kernel_rfl
 have eS:a119=S 31:=by rw [ha119];(try simp only [hA118,ha118]);rw [hS];kernel_rfl
 clear hA119 ha119
 subst eZ eS
 refine call hG [] (of_ok ⟨#[120]⟩ (by decide)) ⟨rfl,rfl,rfl⟩ ?_
 rintro _ _ ⟨A120,a120,rfl,rfl,hA120,ha120⟩
 cbv
 have eZ:A120=Z 31:=by rw [hA120,hZ];kernel_rfl
 have eS:a120=S 31:=by rw [ha120,hS];kernel_rfl
 clear hA120 ha120
 subst eZ eS
 refine call hG [] (of_ok ⟨#[48]⟩ (by decide)) ⟨rfl,rfl,rfl⟩ ?_
 rintro _ _ ⟨A121,a121,rfl,rfl,hA121,ha121⟩
 cbv
 have lA121:A121.length<2^14:=by rw [hA121,ofL_len];decide
 have bA121:Byt A121:=by rw [hA121];exact ofL_byt _
 refine call hG [] (of_ok ⟨#[120]⟩ (by decide)) ⟨rfl,rfl,rfl⟩ ?_
 rintro _ _ ⟨A122,a122,rfl,rfl,hA122,ha122⟩
 cbv
 have lA122:A122.length<2^14:=by rw [hA122,ofL_len];decide
 have bA122:Byt A122:=by rw [hA122];exact ofL_byt _
 refine call hG [] (kv1 (land_ok A121 A122 a121 a122 (by omega) (by omega) bA121 bA122)) ⟨rfl,rfl,rfl⟩ ?_
 rintro _ _ ⟨A123,a123,rfl,rfl,hA123,ha123⟩
 cbv
 have eZ:A123=Z 32:=by rw [hA123];simp only [hA121,ha121,hA122,ha122];rw [hZ];kernel_rfl
 have eS:a123=S 32:=by rw [ha123];(try simp only [hA121,ha121,hA122,ha122]);rw [hS];kernel_rfl
 clear hA123 ha123
 subst eZ eS
 refine call hG [] (of_ok ⟨#[48]⟩ (by decide)) ⟨rfl,rfl,rfl⟩ ?_
 rintro _ _ ⟨A124,a124,rfl,rfl,hA124,ha124⟩
 cbv
 have eZ:A124=Z 32:=by rw [hA124,hZ];kernel_rfl
 have eS:a124=S 32:=by rw [ha124,hS];kernel_rfl
 clear hA124 ha124
 subst eZ eS
 refine call hG [] (of_ok ⟨#[120,49]⟩ (by decide)) ⟨rfl,rfl,rfl⟩ ?_
 rintro _ _ ⟨A125,a125,rfl,rfl,hA125,ha125⟩
 cbv
 have lA125:A125.length<2^14:=by rw [hA125,ofL_len];decide
 have bA125:Byt A125:=by rw [hA125];exact ofL_byt _
 refine call hG [] (of_ok ⟨#[120]⟩ (by decide)) ⟨rfl,rfl,rfl⟩ ?_
 rintro _ _ ⟨A126,a126,rfl,rfl,hA126,ha126⟩
 cbv
 have lA126:A126.length<2^14:=by rw [hA126,ofL_len];decide
 have bA126:Byt A126:=by rw [hA126];exact ofL_byt _
 refine call hG [] (kv1 (lor_ok A125 A126 a125 a126 (by omega) (by omega) bA125 bA126)) ⟨rfl,rfl,rfl⟩ ?_
 rintro _ _ ⟨A127,a127,rfl,rfl,hA127,ha127⟩
 cbv
 have eZ:A127=Z 33:=by rw [hA127];simp only [hA125,ha125,hA126,ha126];rw [hZ];kernel_rfl
 have eS:a127=S 33:=by rw [ha127];(try simp only [hA125,ha125,hA126,ha126]);rw [hS];kernel_rfl
 clear hA127 ha127
 subst eZ eS
 refine call hG [] (of_ok ⟨#[49]⟩ (by decide)) ⟨rfl,rfl,rfl⟩ ?_
 rintro _ _ ⟨A128,a128,rfl,rfl,hA128,ha128⟩
 cbv
 have eZ:A128=Z 33:=by rw [hA128,hZ];kernel_rfl
 have eS:a128=S 33:=by rw [ha128,hS];kernel_rfl
 clear hA128 ha128
 subst eZ eS
 refine call hG [] (sof_ok ⟨#[48,48,49]⟩ (by decide)) ⟨rfl,rfl,rfl⟩ ?_
 rintro _ _ ⟨A129,a129,rfl,rfl,hA129,ha129⟩
 cbv
 have lA129:A129.length<2^14:=by rw [hA129,ofL_len];decide
 have bA129:Byt A129:=by rw [hA129];exact ofL_byt _
 refine call hG [] (vneg_ok A129 a129 (by omega) bA129) ⟨rfl,rfl,rfl⟩ ?_
 rintro _ _ ⟨A130,a130,rfl,rfl,hA130,ha130⟩
 cbv
 have eZ:A130=Z 34:=by rw [hA130];simp only [hA129,ha129];rw [hZ];kernel_rfl
 have eS:a130=S 34:=by rw [ha130];(try simp only [hA129,ha129]);rw [hS];kernel_rfl
 clear hA130 ha130
 subst eZ eS
 refine call hG [] (sof_ok ⟨#[49,49,49]⟩ (by decide)) ⟨rfl,rfl,rfl⟩ ?_
 rintro _ _ ⟨A131,a131,rfl,rfl,hA131,ha131⟩
 cbv
 have eZ:A131=Z 34:=by rw [hA131,hZ];kernel_rfl
 have eS:a131=S 34:=by rw [ha131,hS];kernel_rfl
 clear hA131 ha131
 subst eZ eS
 refine call hG [] (of_ok ⟨#[120,49]⟩ (by decide)) ⟨rfl,rfl,rfl⟩ ?_
 rintro _ _ ⟨A132,a132,rfl,rfl,hA132,ha132⟩
 cbv
 have lA132:A132.length<2^14:=by rw [hA132,ofL_len];decide
 have bA132:Byt A132:=by rw [hA132];exact ofL_byt _
 refine call hG [] (vneg_ok A132 a132 (by omega) bA132) ⟨rfl,rfl,rfl⟩ ?_
 rintro _ _ ⟨A133,a133,rfl,rfl,hA133,ha133⟩
 cbv
 have eZ:A133=Z 35:=by rw [hA133];simp only [hA132,ha132];rw [hZ];kernel_rfl
 have eS:a133=S 35:=by rw [ha133];(try simp only [hA132,ha132]);rw [hS];kernel_rfl
 clear hA133 ha133
 subst eZ eS
 refine call hG [] (of_ok ⟨#[120,120]⟩ (by decide)) ⟨rfl,rfl,rfl⟩ ?_
 rintro _ _ ⟨A134,a134,rfl,rfl,hA134,ha134⟩
 cbv
 have eZ:A134=Z 35:=by rw [hA134,hZ];kernel_rfl
 have eS:a134=S 35:=by rw [ha134,hS];kernel_rfl
 clear hA134 ha134
 subst eZ eS
 exact hK _ _ rfl (by constructor<;>cbv<;>simp)
end Go.Proofs.YtdgbdkfoeaollaaGreatDoor.V
