/- VecExamples: entries 24 to 29 (printed by VEx.py). -/
import Derived.Test.YtdgbdkfoeaollaaGreatDoorVExS
set_option linter.unusedSimpArgs false
set_option linter.unusedVariables false
set_option cbv.maxSteps 4000000
set_option maxRecDepth 100000
set_option maxHeartbeats 8000000
namespace Go.Proofs.YtdgbdkfoeaollaaGreatDoor.V
open Go Go.AL Go.SX
theorem ex_c4 {B:AH} {d:Nat→Prop} (Z:Nat→List Int) (S:Nat→Bool) (hZ:Z=exZ) (hS:S=exS):Pu B ⟨d,fun _=>none⟩ ((exOps.drop 119).take 25) (stE4 Z S) fun s'=>Le s' (stE5 Z S):=by
 have e100:Z 100=List.replicate 129 1:=by rw [hZ];rfl
 have e101:Z 101=[0,4]:=by rw [hZ];rfl
 have g100:S 100=false:=by rw [hS];rfl
 have g101:S 101=true:=by rw [hS];rfl
 have l100:(Z 100).length<2^14:=by rw [e100,List.length_replicate];decide
 have l101:(Z 101).length<2^14:=by rw [e101];decide
 have b100:Byt (Z 100):=by rw [e100];exact rep_byt (by decide)
 have b101:Byt (Z 101):=by rw [e101];unfold Byt;decide
 have l0:([]:List Int).length<2^14:=by decide
 have b0:Byt ([]:List Int):=fun x hx=>by cases hx
 obtain ⟨G,hG⟩:∃ G,G=std CX TB B ⟨d,fun _=>none⟩:=⟨_,rfl⟩
 refine pu_W hG fun K hK=>?_
 cbv
 refine call hG [] (sof_ok ⟨#[48,49,48,49]⟩ (by decide)) ⟨rfl,rfl,rfl⟩ ?_
 rintro _ _ ⟨A96,a96,rfl,rfl,hA96,ha96⟩
 cbv
 have lA96:A96.length<2^14:=by rw [hA96,ofL_len];decide
 have bA96:Byt A96:=by rw [hA96];exact ofL_byt _
 refine call hG [] (of_ok ⟨#[49]⟩ (by decide)) ⟨rfl,rfl,rfl⟩ ?_
 rintro _ _ ⟨A97,a97,rfl,rfl,hA97,ha97⟩
 cbv
 have lA97:A97.length<2^14:=by rw [hA97,ofL_len];decide
 have bA97:Byt A97:=by rw [hA97];exact ofL_byt _
 refine call hG [] (vashl_ok A96 A97 a96 a97 (by omega) (by omega) bA96 bA97) ⟨rfl,rfl,rfl⟩ ?_
 rintro _ _ ⟨A98,a98,rfl,rfl,hA98,ha98⟩
 cbv
 have eZ:A98=Z 24:=by rw [hA98];simp only [hA96,ha96,hA97,ha97];rw [hZ];kernel_rfl
 have eS:a98=S 24:=by rw [ha98];(try simp only [hA96,ha96,hA97,ha97]);rw [hS];kernel_rfl
 clear hA98 ha98
 subst eZ eS
 refine call hG [] (sof_ok ⟨#[49,48,49,48]⟩ (by decide)) ⟨rfl,rfl,rfl⟩ ?_
 rintro _ _ ⟨A99,a99,rfl,rfl,hA99,ha99⟩
 cbv
 have eZ:A99=Z 24:=by rw [hA99,hZ];kernel_rfl
 have eS:a99=S 24:=by rw [ha99,hS];kernel_rfl
 clear hA99 ha99
 subst eZ eS
 refine call hG [] (of_ok ⟨#[49,120,48]⟩ (by decide)) ⟨rfl,rfl,rfl⟩ ?_
 rintro _ _ ⟨A100,a100,rfl,rfl,hA100,ha100⟩
 cbv
 have lA100:A100.length<2^14:=by rw [hA100,ofL_len];decide
 have bA100:Byt A100:=by rw [hA100];exact ofL_byt _
 refine call hG [] (kv1 (redAnd_ok A100 a100 (by omega) bA100)) ⟨rfl,rfl,rfl⟩ ?_
 rintro _ _ ⟨A101,a101,rfl,rfl,hA101,ha101⟩
 cbv
 have eZ:A101=Z 25:=by rw [hA101];simp only [hA100,ha100];rw [hZ];kernel_rfl
 have eS:a101=S 25:=by rw [ha101];(try simp only [hA100,ha100]);rw [hS];kernel_rfl
 clear hA101 ha101
 subst eZ eS
 refine call hG [] (of_ok ⟨#[48]⟩ (by decide)) ⟨rfl,rfl,rfl⟩ ?_
 rintro _ _ ⟨A102,a102,rfl,rfl,hA102,ha102⟩
 cbv
 have eZ:A102=Z 25:=by rw [hA102,hZ];kernel_rfl
 have eS:a102=S 25:=by rw [ha102,hS];kernel_rfl
 clear hA102 ha102
 subst eZ eS
 refine call hG [] (of_ok ⟨#[48,120]⟩ (by decide)) ⟨rfl,rfl,rfl⟩ ?_
 rintro _ _ ⟨A103,a103,rfl,rfl,hA103,ha103⟩
 cbv
 have lA103:A103.length<2^14:=by rw [hA103,ofL_len];decide
 have bA103:Byt A103:=by rw [hA103];exact ofL_byt _
 refine call hG [] (kv1 (redOr_ok A103 a103 (by omega) bA103)) ⟨rfl,rfl,rfl⟩ ?_
 rintro _ _ ⟨A104,a104,rfl,rfl,hA104,ha104⟩
 cbv
 have eZ:A104=Z 26:=by rw [hA104];simp only [hA103,ha103];rw [hZ];kernel_rfl
 have eS:a104=S 26:=by rw [ha104];(try simp only [hA103,ha103]);rw [hS];kernel_rfl
 clear hA104 ha104
 subst eZ eS
 refine call hG [] (of_ok ⟨#[120]⟩ (by decide)) ⟨rfl,rfl,rfl⟩ ?_
 rintro _ _ ⟨A105,a105,rfl,rfl,hA105,ha105⟩
 cbv
 have eZ:A105=Z 26:=by rw [hA105,hZ];kernel_rfl
 have eS:a105=S 26:=by rw [ha105,hS];kernel_rfl
 clear hA105 ha105
 subst eZ eS
 refine call hG [] (of_ok ⟨#[49,49,49]⟩ (by decide)) ⟨rfl,rfl,rfl⟩ ?_
 rintro _ _ ⟨A106,a106,rfl,rfl,hA106,ha106⟩
 cbv
 have lA106:A106.length<2^14:=by rw [hA106,ofL_len];decide
 have bA106:Byt A106:=by rw [hA106];exact ofL_byt _
 refine call hG [] (kv1 (redXor_ok A106 a106 (by omega) bA106)) ⟨rfl,rfl,rfl⟩ ?_
 rintro _ _ ⟨A107,a107,rfl,rfl,hA107,ha107⟩
 cbv
 have eZ:A107=Z 27:=by rw [hA107];simp only [hA106,ha106];rw [hZ];kernel_rfl
 have eS:a107=S 27:=by rw [ha107];(try simp only [hA106,ha106]);rw [hS];kernel_rfl
 clear hA107 ha107
 subst eZ eS
 refine call hG [] (of_ok ⟨#[49]⟩ (by decide)) ⟨rfl,rfl,rfl⟩ ?_
 rintro _ _ ⟨A108,a108,rfl,rfl,hA108,ha108⟩
 cbv
 have eZ:A108=Z 27:=by rw [hA108,hZ];kernel_rfl
 have eS:a108=S 27:=by rw [ha108,hS];kernel_rfl
 clear hA108 ha108
 subst eZ eS
 refine call hG [] (of_ok ⟨#[122]⟩ (by decide)) ⟨rfl,rfl,rfl⟩ ?_
 rintro _ _ ⟨A109,a109,rfl,rfl,hA109,ha109⟩
 cbv
 have lA109:A109.length<2^14:=by rw [hA109,ofL_len];decide
 have bA109:Byt A109:=by rw [hA109];exact ofL_byt _
 refine call hG [] (kv1 (redNand_ok A109 a109 (by omega) bA109)) ⟨rfl,rfl,rfl⟩ ?_
 rintro _ _ ⟨A110,a110,rfl,rfl,hA110,ha110⟩
 cbv
 have eZ:A110=Z 28:=by rw [hA110];simp only [hA109,ha109];rw [hZ];kernel_rfl
 have eS:a110=S 28:=by rw [ha110];(try simp only [hA109,ha109]);rw [hS];kernel_rfl
 clear hA110 ha110
 subst eZ eS
 refine call hG [] (of_ok ⟨#[120]⟩ (by decide)) ⟨rfl,rfl,rfl⟩ ?_
 rintro _ _ ⟨A111,a111,rfl,rfl,hA111,ha111⟩
 cbv
 have eZ:A111=Z 28:=by rw [hA111,hZ];kernel_rfl
 have eS:a111=S 28:=by rw [ha111,hS];kernel_rfl
 clear hA111 ha111
 subst eZ eS
 refine call hG [] (of_ok ⟨#[48,48]⟩ (by decide)) ⟨rfl,rfl,rfl⟩ ?_
 rintro _ _ ⟨A112,a112,rfl,rfl,hA112,ha112⟩
 cbv
 have lA112:A112.length<2^14:=by rw [hA112,ofL_len];decide
 have bA112:Byt A112:=by rw [hA112];exact ofL_byt _
 refine call hG [] (kv1 (redNor_ok A112 a112 (by omega) bA112)) ⟨rfl,rfl,rfl⟩ ?_
 rintro _ _ ⟨A113,a113,rfl,rfl,hA113,ha113⟩
 cbv
 have eZ:A113=Z 29:=by rw [hA113];simp only [hA112,ha112];rw [hZ];kernel_rfl
 have eS:a113=S 29:=by rw [ha113];(try simp only [hA112,ha112]);rw [hS];kernel_rfl
 clear hA113 ha113
 subst eZ eS
 refine call hG [] (of_ok ⟨#[49]⟩ (by decide)) ⟨rfl,rfl,rfl⟩ ?_
 rintro _ _ ⟨A114,a114,rfl,rfl,hA114,ha114⟩
 cbv
 have eZ:A114=Z 29:=by rw [hA114,hZ];kernel_rfl
 have eS:a114=S 29:=by rw [ha114,hS];kernel_rfl
 clear hA114 ha114
 subst eZ eS
 exact hK _ _ rfl (by constructor<;>cbv<;>simp)
end Go.Proofs.YtdgbdkfoeaollaaGreatDoor.V
