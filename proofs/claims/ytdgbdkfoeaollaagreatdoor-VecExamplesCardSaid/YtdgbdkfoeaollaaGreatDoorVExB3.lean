/- VecExamples: entries 18 to 23 (printed by VEx.py). -/
import Derived.Test.YtdgbdkfoeaollaaGreatDoorVExS
set_option linter.unusedSimpArgs false
set_option linter.unusedVariables false
set_option cbv.maxSteps 4000000
set_option maxRecDepth 100000
set_option maxHeartbeats 8000000
namespace Go.Proofs.YtdgbdkfoeaollaaGreatDoor.V
open Go Go.AL Go.SX
theorem ex_c3 {B:AH} {d:Nat→Prop} (Z:Nat→List Int) (S:Nat→Bool) (hZ:Z=exZ) (hS:S=exS):Pu B ⟨d,fun _=>none⟩ ((exOps.drop 89).take 30) (stE3 Z S) fun s'=>Le s' (stE4 Z S):=by
 have e100:Z 100=List.replicate 129 1:=by rw [hZ];rfl
 have e101:Z 101=[0,4]:=by rw [hZ];rfl
 have g100:S 100=false:=by rw [hS];rfl
 have g101:S 101=true:=by rw [hS];rfl
 have l100:(Z 100).length<2^14:=by rw [e100,List.length_replicate];decide
 have l101:(Z 101).length<2^14:=by rw [e101];decide
 have b100:Byt (Z 100):=by rw [e100];exact rep_byt (by decide)
 have b101:Byt (Z 101):=by rw [e101];unfold Byt;decide
 have l0:([]:List Int).length<2^14:=by decide
 have b0:Byt ([]:List Int):=fun x hx=>by cases hx
 obtain ⟨G,hG⟩:∃ G,G=std CX TB B ⟨d,fun _=>none⟩:=⟨_,rfl⟩
 refine pu_W hG fun K hK=>?_
 cbv
 refine call hG [] (of_ok ⟨#[48,122,49,49]⟩ (by decide)) ⟨rfl,rfl,rfl⟩ ?_
 rintro _ _ ⟨A72,a72,rfl,rfl,hA72,ha72⟩
 cbv
 have lA72:A72.length<2^14:=by rw [hA72,ofL_len];decide
 have bA72:Byt A72:=by rw [hA72];exact ofL_byt _
 refine call hG [] (of_ok ⟨#[49]⟩ (by decide)) ⟨rfl,rfl,rfl⟩ ?_
 rintro _ _ ⟨A73,a73,rfl,rfl,hA73,ha73⟩
 cbv
 have lA73:A73.length<2^14:=by rw [hA73,ofL_len];decide
 have bA73:Byt A73:=by rw [hA73];exact ofL_byt _
 refine call hG [] (vshl_ok A72 A73 a72 a73 (by omega) (by omega) bA72 bA73) ⟨rfl,rfl,rfl⟩ ?_
 rintro _ _ ⟨A74,a74,rfl,rfl,hA74,ha74⟩
 cbv
 have eZ:A74=Z 18:=by rw [hA74];simp only [hA72,ha72,hA73,ha73];rw [hZ];kernel_rfl
 have eS:a74=S 18:=by rw [ha74];(try simp only [hA72,ha72,hA73,ha73]);rw [hS];kernel_rfl
 clear hA74 ha74
 subst eZ eS
 refine call hG [] (of_ok ⟨#[122,49,49,48]⟩ (by decide)) ⟨rfl,rfl,rfl⟩ ?_
 rintro _ _ ⟨A75,a75,rfl,rfl,hA75,ha75⟩
 cbv
 have eZ:A75=Z 18:=by rw [hA75,hZ];kernel_rfl
 have eS:a75=S 18:=by rw [ha75,hS];kernel_rfl
 clear hA75 ha75
 subst eZ eS
 refine call hG [] (sof_ok ⟨#[49,48,48,48]⟩ (by decide)) ⟨rfl,rfl,rfl⟩ ?_
 rintro _ _ ⟨A76,a76,rfl,rfl,hA76,ha76⟩
 cbv
 have lA76:A76.length<2^14:=by rw [hA76,ofL_len];decide
 have bA76:Byt A76:=by rw [hA76];exact ofL_byt _
 refine call hG [] (of_ok ⟨#[49]⟩ (by decide)) ⟨rfl,rfl,rfl⟩ ?_
 rintro _ _ ⟨A77,a77,rfl,rfl,hA77,ha77⟩
 cbv
 have lA77:A77.length<2^14:=by rw [hA77,ofL_len];decide
 have bA77:Byt A77:=by rw [hA77];exact ofL_byt _
 refine call hG [] (vshr_ok A76 A77 a76 a77 (by omega) (by omega) bA76 bA77) ⟨rfl,rfl,rfl⟩ ?_
 rintro _ _ ⟨A78,a78,rfl,rfl,hA78,ha78⟩
 cbv
 have eZ:A78=Z 19:=by rw [hA78];simp only [hA76,ha76,hA77,ha77];rw [hZ];kernel_rfl
 have eS:a78=S 19:=by rw [ha78];(try simp only [hA76,ha76,hA77,ha77]);rw [hS];kernel_rfl
 clear hA78 ha78
 subst eZ eS
 refine call hG [] (sof_ok ⟨#[48,49,48,48]⟩ (by decide)) ⟨rfl,rfl,rfl⟩ ?_
 rintro _ _ ⟨A79,a79,rfl,rfl,hA79,ha79⟩
 cbv
 have eZ:A79=Z 19:=by rw [hA79,hZ];kernel_rfl
 have eS:a79=S 19:=by rw [ha79,hS];kernel_rfl
 clear hA79 ha79
 subst eZ eS
 refine call hG [] (of_ok ⟨#[49,48,48,48]⟩ (by decide)) ⟨rfl,rfl,rfl⟩ ?_
 rintro _ _ ⟨A80,a80,rfl,rfl,hA80,ha80⟩
 cbv
 have lA80:A80.length<2^14:=by rw [hA80,ofL_len];decide
 have bA80:Byt A80:=by rw [hA80];exact ofL_byt _
 refine call hG [] (of_ok ⟨#[49]⟩ (by decide)) ⟨rfl,rfl,rfl⟩ ?_
 rintro _ _ ⟨A81,a81,rfl,rfl,hA81,ha81⟩
 cbv
 have lA81:A81.length<2^14:=by rw [hA81,ofL_len];decide
 have bA81:Byt A81:=by rw [hA81];exact ofL_byt _
 refine call hG [] (vashr_ok A80 A81 a80 a81 (by omega) (by omega) bA80 bA81) ⟨rfl,rfl,rfl⟩ ?_
 rintro _ _ ⟨A82,a82,rfl,rfl,hA82,ha82⟩
 cbv
 have eZ:A82=Z 20:=by rw [hA82];simp only [hA80,ha80,hA81,ha81];rw [hZ];kernel_rfl
 have eS:a82=S 20:=by rw [ha82];(try simp only [hA80,ha80,hA81,ha81]);rw [hS];kernel_rfl
 clear hA82 ha82
 subst eZ eS
 refine call hG [] (of_ok ⟨#[48,49,48,48]⟩ (by decide)) ⟨rfl,rfl,rfl⟩ ?_
 rintro _ _ ⟨A83,a83,rfl,rfl,hA83,ha83⟩
 cbv
 have eZ:A83=Z 20:=by rw [hA83,hZ];kernel_rfl
 have eS:a83=S 20:=by rw [ha83,hS];kernel_rfl
 clear hA83 ha83
 subst eZ eS
 refine call hG [] (sof_ok ⟨#[120,48,48,48]⟩ (by decide)) ⟨rfl,rfl,rfl⟩ ?_
 rintro _ _ ⟨A84,a84,rfl,rfl,hA84,ha84⟩
 cbv
 have lA84:A84.length<2^14:=by rw [hA84,ofL_len];decide
 have bA84:Byt A84:=by rw [hA84];exact ofL_byt _
 refine call hG [] (sof_ok ⟨#[49,49]⟩ (by decide)) ⟨rfl,rfl,rfl⟩ ?_
 rintro _ _ ⟨A85,a85,rfl,rfl,hA85,ha85⟩
 cbv
 have lA85:A85.length<2^14:=by rw [hA85,ofL_len];decide
 have bA85:Byt A85:=by rw [hA85];exact ofL_byt _
 refine call hG [] (vashr_ok A84 A85 a84 a85 (by omega) (by omega) bA84 bA85) ⟨rfl,rfl,rfl⟩ ?_
 rintro _ _ ⟨A86,a86,rfl,rfl,hA86,ha86⟩
 cbv
 have eZ:A86=Z 21:=by rw [hA86];simp only [hA84,ha84,hA85,ha85];rw [hZ];kernel_rfl
 have eS:a86=S 21:=by rw [ha86];(try simp only [hA84,ha84,hA85,ha85]);rw [hS];kernel_rfl
 clear hA86 ha86
 subst eZ eS
 refine call hG [] (sof_ok ⟨#[120,120,120,120]⟩ (by decide)) ⟨rfl,rfl,rfl⟩ ?_
 rintro _ _ ⟨A87,a87,rfl,rfl,hA87,ha87⟩
 cbv
 have eZ:A87=Z 21:=by rw [hA87,hZ];kernel_rfl
 have eS:a87=S 21:=by rw [ha87,hS];kernel_rfl
 clear hA87 ha87
 subst eZ eS
 refine call hG [] (of_ok ⟨#[49,49]⟩ (by decide)) ⟨rfl,rfl,rfl⟩ ?_
 rintro _ _ ⟨A88,a88,rfl,rfl,hA88,ha88⟩
 cbv
 have lA88:A88.length<2^14:=by rw [hA88,ofL_len];decide
 have bA88:Byt A88:=by rw [hA88];exact ofL_byt _
 refine call hG [] (rfill_ok (.ofNat 1) (.ofNat 128) false (by decide)) ⟨rfl,rfl,rfl⟩ ?_
 rintro _ _ ⟨A89,a89,rfl,rfl,hA89,ha89⟩
 cbv
 have hA89:A89=List.replicate 128 1:=hA89
 have lA89:A89.length<2^14:=by rw [hA89,List.length_replicate];decide
 have bA89:Byt A89:=by rw [hA89];exact rep_byt (by decide)
 refine call hG [] (vshr_ok A88 A89 a88 a89 (by omega) (by omega) bA88 bA89) ⟨rfl,rfl,rfl⟩ ?_
 rintro _ _ ⟨A90,a90,rfl,rfl,hA90,ha90⟩
 cbv
 have eZ:A90=Z 22:=by rw [hA90];simp only [hA88,ha88,hA89,ha89];rw [hZ];kernel_rfl
 have eS:a90=S 22:=by rw [ha90];(try simp only [hA88,ha88,hA89,ha89]);rw [hS];kernel_rfl
 clear hA90 ha90
 subst eZ eS
 refine call hG [] (of_ok ⟨#[48,48]⟩ (by decide)) ⟨rfl,rfl,rfl⟩ ?_
 rintro _ _ ⟨A91,a91,rfl,rfl,hA91,ha91⟩
 cbv
 have eZ:A91=Z 22:=by rw [hA91,hZ];kernel_rfl
 have eS:a91=S 22:=by rw [ha91,hS];kernel_rfl
 clear hA91 ha91
 subst eZ eS
 refine call hG [] (of_ok ⟨#[48,49]⟩ (by decide)) ⟨rfl,rfl,rfl⟩ ?_
 rintro _ _ ⟨A92,a92,rfl,rfl,hA92,ha92⟩
 cbv
 have lA92:A92.length<2^14:=by rw [hA92,ofL_len];decide
 have bA92:Byt A92:=by rw [hA92];exact ofL_byt _
 refine call hG [] (of_ok ⟨#[122]⟩ (by decide)) ⟨rfl,rfl,rfl⟩ ?_
 rintro _ _ ⟨A93,a93,rfl,rfl,hA93,ha93⟩
 cbv
 have lA93:A93.length<2^14:=by rw [hA93,ofL_len];decide
 have bA93:Byt A93:=by rw [hA93];exact ofL_byt _
 refine call hG [] (vshl_ok A92 A93 a92 a93 (by omega) (by omega) bA92 bA93) ⟨rfl,rfl,rfl⟩ ?_
 rintro _ _ ⟨A94,a94,rfl,rfl,hA94,ha94⟩
 cbv
 have eZ:A94=Z 23:=by rw [hA94];simp only [hA92,ha92,hA93,ha93];rw [hZ];kernel_rfl
 have eS:a94=S 23:=by rw [ha94];(try simp only [hA92,ha92,hA93,ha93]);rw [hS];kernel_rfl
 clear hA94 ha94
 subst eZ eS
 refine call hG [] (of_ok ⟨#[120,120]⟩ (by decide)) ⟨rfl,rfl,rfl⟩ ?_
 rintro _ _ ⟨A95,a95,rfl,rfl,hA95,ha95⟩
 cbv
 have eZ:A95=Z 23:=by rw [hA95,hZ];kernel_rfl
 have eS:a95=S 23:=by rw [ha95,hS];kernel_rfl
 clear hA95 ha95
 subst eZ eS
 exact hK _ _ rfl (by constructor<;>cbv<;>simp)
end Go.Proofs.YtdgbdkfoeaollaaGreatDoor.V
