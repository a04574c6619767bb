/- VecExamples: entries 12 to 17 (printed by VEx.py). -/
import Derived.Test.YtdgbdkfoeaollaaGreatDoorVExS
set_option linter.unusedSimpArgs false
set_option linter.unusedVariables false
set_option cbv.maxSteps 4000000
set_option maxRecDepth 100000
set_option maxHeartbeats 8000000
namespace Go.Proofs.YtdgbdkfoeaollaaGreatDoor.V
open Go Go.AL Go.SX
theorem ex_c2 {B:AH} {d:Nat→Prop} (Z:Nat→List Int) (S:Nat→Bool) (hZ:Z=exZ) (hS:S=exS):Pu B ⟨d,fun _=>none⟩ ((exOps.drop 59).take 30) (stE2 Z S) fun s'=>Le s' (stE3 Z S):=by
 have e100:Z 100=List.replicate 129 1:=by rw [hZ];rfl
 have e101:Z 101=[0,4]:=by rw [hZ];rfl
 have g100:S 100=false:=by rw [hS];rfl
 have g101:S 101=true:=by rw [hS];rfl
 have l100:(Z 100).length<2^14:=by rw [e100,List.length_replicate];decide
 have l101:(Z 101).length<2^14:=by rw [e101];decide
 have b100:Byt (Z 100):=by rw [e100];exact rep_byt (by decide)
 have b101:Byt (Z 101):=by rw [e101];unfold Byt;decide
 have l0:([]:List Int).length<2^14:=by decide
 have b0:Byt ([]:List Int):=fun x hx=>by cases hx
 obtain ⟨G,hG⟩:∃ G,G=std CX TB B ⟨d,fun _=>none⟩:=⟨_,rfl⟩
 refine pu_W hG fun K hK=>?_
 cbv
 refine call hG [] (sof_ok ⟨#[48,48,48,49]⟩ (by decide)) ⟨rfl,rfl,rfl⟩ ?_
 rintro _ _ ⟨A48,a48,rfl,rfl,hA48,ha48⟩
 cbv
 have lA48:A48.length<2^14:=by rw [hA48,ofL_len];decide
 have bA48:Byt A48:=by rw [hA48];exact ofL_byt _
 refine call hG [] (sof_ok ⟨#[49]⟩ (by decide)) ⟨rfl,rfl,rfl⟩ ?_
 rintro _ _ ⟨A49,a49,rfl,rfl,hA49,ha49⟩
 cbv
 have lA49:A49.length<2^14:=by rw [hA49,ofL_len];decide
 have bA49:Byt A49:=by rw [hA49];exact ofL_byt _
 refine call hG [] (vpow_ok A48 A49 a48 a49 (by omega) (by omega) bA48 bA49) ⟨rfl,rfl,rfl⟩ ?_
 rintro _ _ ⟨A50,a50,rfl,rfl,hA50,ha50⟩
 cbv
 have eZ:A50=Z 12:=by rw [hA50];simp only [hA48,ha48,hA49,ha49];rw [hZ];kernel_rfl
 have eS:a50=S 12:=by rw [ha50];(try simp only [hA48,ha48,hA49,ha49]);rw [hS];kernel_rfl
 clear hA50 ha50
 subst eZ eS
 refine call hG [] (sof_ok ⟨#[48,48,48,49]⟩ (by decide)) ⟨rfl,rfl,rfl⟩ ?_
 rintro _ _ ⟨A51,a51,rfl,rfl,hA51,ha51⟩
 cbv
 have eZ:A51=Z 12:=by rw [hA51,hZ];kernel_rfl
 have eS:a51=S 12:=by rw [ha51,hS];kernel_rfl
 clear hA51 ha51
 subst eZ eS
 refine call hG [] (of_ok ⟨#[49,49,49,49]⟩ (by decide)) ⟨rfl,rfl,rfl⟩ ?_
 rintro _ _ ⟨A52,a52,rfl,rfl,hA52,ha52⟩
 cbv
 have lA52:A52.length<2^14:=by rw [hA52,ofL_len];decide
 have bA52:Byt A52:=by rw [hA52];exact ofL_byt _
 refine call hG [] (sof_ok ⟨#[49]⟩ (by decide)) ⟨rfl,rfl,rfl⟩ ?_
 rintro _ _ ⟨A53,a53,rfl,rfl,hA53,ha53⟩
 cbv
 have lA53:A53.length<2^14:=by rw [hA53,ofL_len];decide
 have bA53:Byt A53:=by rw [hA53];exact ofL_byt _
 refine call hG [] (vpow_ok A52 A53 a52 a53 (by omega) (by omega) bA52 bA53) ⟨rfl,rfl,rfl⟩ ?_
 rintro _ _ ⟨A54,a54,rfl,rfl,hA54,ha54⟩
 cbv
 have eZ:A54=Z 13:=by rw [hA54];simp only [hA52,ha52,hA53,ha53];rw [hZ];kernel_rfl
 have eS:a54=S 13:=by rw [ha54];(try simp only [hA52,ha52,hA53,ha53]);rw [hS];kernel_rfl
 clear hA54 ha54
 subst eZ eS
 refine call hG [] (of_ok ⟨#[48,48,48,48]⟩ (by decide)) ⟨rfl,rfl,rfl⟩ ?_
 rintro _ _ ⟨A55,a55,rfl,rfl,hA55,ha55⟩
 cbv
 have eZ:A55=Z 13:=by rw [hA55,hZ];kernel_rfl
 have eS:a55=S 13:=by rw [ha55,hS];kernel_rfl
 clear hA55 ha55
 subst eZ eS
 refine call hG [] (sof_ok ⟨#[48,48]⟩ (by decide)) ⟨rfl,rfl,rfl⟩ ?_
 rintro _ _ ⟨A56,a56,rfl,rfl,hA56,ha56⟩
 cbv
 have lA56:A56.length<2^14:=by rw [hA56,ofL_len];decide
 have bA56:Byt A56:=by rw [hA56];exact ofL_byt _
 refine call hG [] (sof_ok ⟨#[49]⟩ (by decide)) ⟨rfl,rfl,rfl⟩ ?_
 rintro _ _ ⟨A57,a57,rfl,rfl,hA57,ha57⟩
 cbv
 have lA57:A57.length<2^14:=by rw [hA57,ofL_len];decide
 have bA57:Byt A57:=by rw [hA57];exact ofL_byt _
 refine call hG [] (vpow_ok A56 A57 a56 a57 (by omega) (by omega) bA56 bA57) ⟨rfl,rfl,rfl⟩ ?_
 rintro _ _ ⟨A58,a58,rfl,rfl,hA58,ha58⟩
 cbv
 have eZ:A58=Z 14:=by rw [hA58];simp only [hA56,ha56,hA57,ha57];rw [hZ];kernel_rfl
 have eS:a58=S 14:=by rw [ha58];(try simp only [hA56,ha56,hA57,ha57]);rw [hS];kernel_rfl
 clear hA58 ha58
 subst eZ eS
 refine call hG [] (sof_ok ⟨#[120,120]⟩ (by decide)) ⟨rfl,rfl,rfl⟩ ?_
 rintro _ _ ⟨A59,a59,rfl,rfl,hA59,ha59⟩
 cbv
 have eZ:A59=Z 14:=by rw [hA59,hZ];kernel_rfl
 have eS:a59=S 14:=by rw [ha59,hS];kernel_rfl
 clear hA59 ha59
 subst eZ eS
 refine call hG [] (of_ok ⟨#[48,48]⟩ (by decide)) ⟨rfl,rfl,rfl⟩ ?_
 rintro _ _ ⟨A60,a60,rfl,rfl,hA60,ha60⟩
 cbv
 have lA60:A60.length<2^14:=by rw [hA60,ofL_len];decide
 have bA60:Byt A60:=by rw [hA60];exact ofL_byt _
 refine call hG [] (of_ok ⟨#[49]⟩ (by decide)) ⟨rfl,rfl,rfl⟩ ?_
 rintro _ _ ⟨A61,a61,rfl,rfl,hA61,ha61⟩
 cbv
 have lA61:A61.length<2^14:=by rw [hA61,ofL_len];decide
 have bA61:Byt A61:=by rw [hA61];exact ofL_byt _
 refine call hG [] (vpow_ok A60 A61 a60 a61 (by omega) (by omega) bA60 bA61) ⟨rfl,rfl,rfl⟩ ?_
 rintro _ _ ⟨A62,a62,rfl,rfl,hA62,ha62⟩
 cbv
 have eZ:A62=Z 15:=by rw [hA62];simp only [hA60,ha60,hA61,ha61];rw [hZ];kernel_rfl
 have eS:a62=S 15:=by rw [ha62];(try simp only [hA60,ha60,hA61,ha61]);rw [hS];kernel_rfl
 clear hA62 ha62
 subst eZ eS
 refine call hG [] (of_ok ⟨#[48,48]⟩ (by decide)) ⟨rfl,rfl,rfl⟩ ?_
 rintro _ _ ⟨A63,a63,rfl,rfl,hA63,ha63⟩
 cbv
 have eZ:A63=Z 15:=by rw [hA63,hZ];kernel_rfl
 have eS:a63=S 15:=by rw [ha63,hS];kernel_rfl
 clear hA63 ha63
 subst eZ eS
 refine call hG [] (of_ok ⟨#[49,48]⟩ (by decide)) ⟨rfl,rfl,rfl⟩ ?_
 rintro _ _ ⟨A64,a64,rfl,rfl,hA64,ha64⟩
 cbv
 have lA64:A64.length<2^14:=by rw [hA64,ofL_len];decide
 have bA64:Byt A64:=by rw [hA64];exact ofL_byt _
 refine call hG [] (of_ok ⟨#[120]⟩ (by decide)) ⟨rfl,rfl,rfl⟩ ?_
 rintro _ _ ⟨A65,a65,rfl,rfl,hA65,ha65⟩
 cbv
 have lA65:A65.length<2^14:=by rw [hA65,ofL_len];decide
 have bA65:Byt A65:=by rw [hA65];exact ofL_byt _
 refine call hG [] (vpow_ok A64 A65 a64 a65 (by omega) (by omega) bA64 bA65) ⟨rfl,rfl,rfl⟩ ?_
 rintro _ _ ⟨A66,a66,rfl,rfl,hA66,ha66⟩
 cbv
 have eZ:A66=Z 16:=by rw [hA66];simp only [hA64,ha64,hA65,ha65];rw [hZ];kernel_rfl
 have eS:a66=S 16:=by rw [ha66];(try simp only [hA64,ha64,hA65,ha65]);rw [hS];kernel_rfl
 clear hA66 ha66
 subst eZ eS
 refine call hG [] (of_ok ⟨#[120,120]⟩ (by decide)) ⟨rfl,rfl,rfl⟩ ?_
 rintro _ _ ⟨A67,a67,rfl,rfl,hA67,ha67⟩
 cbv
 have eZ:A67=Z 16:=by rw [hA67,hZ];kernel_rfl
 have eS:a67=S 16:=by rw [ha67,hS];kernel_rfl
 clear hA67 ha67
 subst eZ eS
 refine call hG [] (of_ok ⟨#[48,48,49,49]⟩ (by decide)) ⟨rfl,rfl,rfl⟩ ?_
 rintro _ _ ⟨A68,a68,rfl,rfl,hA68,ha68⟩
 cbv
 have lA68:A68.length<2^14:=by rw [hA68,ofL_len];decide
 have bA68:Byt A68:=by rw [hA68];exact ofL_byt _
 refine call hG [] (of_ok ⟨#[49,48]⟩ (by decide)) ⟨rfl,rfl,rfl⟩ ?_
 rintro _ _ ⟨A69,a69,rfl,rfl,hA69,ha69⟩
 cbv
 have lA69:A69.length<2^14:=by rw [hA69,ofL_len];decide
 have bA69:Byt A69:=by rw [hA69];exact ofL_byt _
 refine call hG [] (vshl_ok A68 A69 a68 a69 (by omega) (by omega) bA68 bA69) ⟨rfl,rfl,rfl⟩ ?_
 rintro _ _ ⟨A70,a70,rfl,rfl,hA70,ha70⟩
 cbv
 have eZ:A70=Z 17:=by rw [hA70];simp only [hA68,ha68,hA69,ha69];rw [hZ];kernel_rfl
 have eS:a70=S 17:=by rw [ha70];(try simp only [hA68,ha68,hA69,ha69]);rw [hS];kernel_rfl
 clear hA70 ha70
 subst eZ eS
 refine call hG [] (of_ok ⟨#[49,49,48,48]⟩ (by decide)) ⟨rfl,rfl,rfl⟩ ?_
 rintro _ _ ⟨A71,a71,rfl,rfl,hA71,ha71⟩
 cbv
 have eZ:A71=Z 17:=by rw [hA71,hZ];kernel_rfl
 have eS:a71=S 17:=by rw [ha71,hS];kernel_rfl
 clear hA71 ha71
 subst eZ eS
 exact hK _ _ rfl (by constructor<;>cbv<;>simp)
end Go.Proofs.YtdgbdkfoeaollaaGreatDoor.V
