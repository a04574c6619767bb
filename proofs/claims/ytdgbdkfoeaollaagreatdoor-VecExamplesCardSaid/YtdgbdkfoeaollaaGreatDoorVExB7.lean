/- VecExamples: entries 42 to 47 (printed by VEx.py). -/
import Derived.Test.YtdgbdkfoeaollaaGreatDoorVExS
set_option linter.unusedSimpArgs false
set_option linter.unusedVariables false
set_option cbv.maxSteps 4000000
set_option maxRecDepth 100000
set_option maxHeartbeats 8000000
namespace Go.Proofs.YtdgbdkfoeaollaaGreatDoor.V
open Go Go.AL Go.SX
theorem ex_c7 {B:AH} {d:Nat→Prop} (Z:Nat→List Int) (S:Nat→Bool) (hZ:Z=exZ) (hS:S=exS):Pu B ⟨d,fun _=>none⟩ ((exOps.drop 200).take 33) (stE7 Z S) fun s'=>Le s' (stE8 Z S):=by
 have e100:Z 100=List.replicate 129 1:=by rw [hZ];rfl
 have e101:Z 101=[0,4]:=by rw [hZ];rfl
 have g100:S 100=false:=by rw [hS];rfl
 have g101:S 101=true:=by rw [hS];rfl
 have l100:(Z 100).length<2^14:=by rw [e100,List.length_replicate];decide
 have l101:(Z 101).length<2^14:=by rw [e101];decide
 have b100:Byt (Z 100):=by rw [e100];exact rep_byt (by decide)
 have b101:Byt (Z 101):=by rw [e101];unfold Byt;decide
 have l0:([]:List Int).length<2^14:=by decide
 have b0:Byt ([]:List Int):=fun x hx=>by cases hx
 obtain ⟨G,hG⟩:∃ G,G=std CX TB B ⟨d,fun _=>none⟩:=⟨_,rfl⟩
 refine pu_W hG fun K hK=>?_
 cbv
 refine call hG [] (of_ok ⟨#[120]⟩ (by decide)) ⟨rfl,rfl,rfl⟩ ?_
 rintro _ _ ⟨A159,a159,rfl,rfl,hA159,ha159⟩
 cbv
 have lA159:A159.length<2^14:=by rw [hA159,ofL_len];decide
 have bA159:Byt A159:=by rw [hA159];exact ofL_byt _
 refine call hG [] (of_ok ⟨#[122]⟩ (by decide)) ⟨rfl,rfl,rfl⟩ ?_
 rintro _ _ ⟨A160,a160,rfl,rfl,hA160,ha160⟩
 cbv
 have lA160:A160.length<2^14:=by rw [hA160,ofL_len];decide
 have bA160:Byt A160:=by rw [hA160];exact ofL_byt _
 refine call hG [] (kv1 (vcaseEq_ok A159 A160 a159 a160 (by omega) (by omega) bA159 bA160)) ⟨rfl,rfl,rfl⟩ ?_
 rintro _ _ ⟨A161,a161,rfl,rfl,hA161,ha161⟩
 cbv
 have eZ:A161=Z 42:=by rw [hA161];simp only [hA159,ha159,hA160,ha160];rw [hZ];kernel_rfl
 have eS:a161=S 42:=by rw [ha161];(try simp only [hA159,ha159,hA160,ha160]);rw [hS];kernel_rfl
 clear hA161 ha161
 subst eZ eS
 refine call hG [] (of_ok ⟨#[48]⟩ (by decide)) ⟨rfl,rfl,rfl⟩ ?_
 rintro _ _ ⟨A162,a162,rfl,rfl,hA162,ha162⟩
 cbv
 have eZ:A162=Z 42:=by rw [hA162,hZ];kernel_rfl
 have eS:a162=S 42:=by rw [ha162,hS];kernel_rfl
 clear hA162 ha162
 subst eZ eS
 refine call hG [] (sof_ok ⟨#[122]⟩ (by decide)) ⟨rfl,rfl,rfl⟩ ?_
 rintro _ _ ⟨A163,a163,rfl,rfl,hA163,ha163⟩
 cbv
 have lA163:A163.length<2^14:=by rw [hA163,ofL_len];decide
 have bA163:Byt A163:=by rw [hA163];exact ofL_byt _
 refine call hG [] (sof_ok ⟨#[122,122]⟩ (by decide)) ⟨rfl,rfl,rfl⟩ ?_
 rintro _ _ ⟨A164,a164,rfl,rfl,hA164,ha164⟩
 cbv
 have lA164:A164.length<2^14:=by rw [hA164,ofL_len];decide
 have bA164:Byt A164:=by rw [hA164];exact ofL_byt _
 refine call hG [] (kv1 (vcaseNe_ok A163 A164 a163 a164 (by omega) (by omega) bA163 bA164)) ⟨rfl,rfl,rfl⟩ ?_
 rintro _ _ ⟨A165,a165,rfl,rfl,hA165,ha165⟩
 cbv
 have eZ:A165=Z 43:=by rw [hA165];simp only [hA163,ha163,hA164,ha164];rw [hZ];kernel_rfl
 have eS:a165=S 43:=by rw [ha165];(try simp only [hA163,ha163,hA164,ha164]);rw [hS];kernel_rfl
 clear hA165 ha165
 subst eZ eS
 refine call hG [] (of_ok ⟨#[48]⟩ (by decide)) ⟨rfl,rfl,rfl⟩ ?_
 rintro _ _ ⟨A166,a166,rfl,rfl,hA166,ha166⟩
 cbv
 have eZ:A166=Z 43:=by rw [hA166,hZ];kernel_rfl
 have eS:a166=S 43:=by rw [ha166,hS];kernel_rfl
 clear hA166 ha166
 subst eZ eS
 refine call hG [] (of_ok ⟨#[122]⟩ (by decide)) ⟨rfl,rfl,rfl⟩ ?_
 rintro _ _ ⟨A167,a167,rfl,rfl,hA167,ha167⟩
 cbv
 have lA167:A167.length<2^14:=by rw [hA167,ofL_len];decide
 have bA167:Byt A167:=by rw [hA167];exact ofL_byt _
 refine call hG [] (sof_ok ⟨#[122,122]⟩ (by decide)) ⟨rfl,rfl,rfl⟩ ?_
 rintro _ _ ⟨A168,a168,rfl,rfl,hA168,ha168⟩
 cbv
 have lA168:A168.length<2^14:=by rw [hA168,ofL_len];decide
 have bA168:Byt A168:=by rw [hA168];exact ofL_byt _
 refine call hG [] (kv1 (vcaseEq_ok A167 A168 a167 a168 (by omega) (by omega) bA167 bA168)) ⟨rfl,rfl,rfl⟩ ?_
 rintro _ _ ⟨A169,a169,rfl,rfl,hA169,ha169⟩
 cbv
 have eZ:A169=Z 44:=by rw [hA169];simp only [hA167,ha167,hA168,ha168];rw [hZ];kernel_rfl
 have eS:a169=S 44:=by rw [ha169];(try simp only [hA167,ha167,hA168,ha168]);rw [hS];kernel_rfl
 clear hA169 ha169
 subst eZ eS
 refine call hG [] (of_ok ⟨#[48]⟩ (by decide)) ⟨rfl,rfl,rfl⟩ ?_
 rintro _ _ ⟨A170,a170,rfl,rfl,hA170,ha170⟩
 cbv
 have eZ:A170=Z 44:=by rw [hA170,hZ];kernel_rfl
 have eS:a170=S 44:=by rw [ha170,hS];kernel_rfl
 clear hA170 ha170
 subst eZ eS
 refine call hG [] (of_ok ⟨#[48,120]⟩ (by decide)) ⟨rfl,rfl,rfl⟩ ?_
 rintro _ _ ⟨A171,a171,rfl,rfl,hA171,ha171⟩
 cbv
 have lA171:A171.length<2^14:=by rw [hA171,ofL_len];decide
 have bA171:Byt A171:=by rw [hA171];exact ofL_byt _
 refine call hG [] (sof_ok ⟨#[122,49]⟩ (by decide)) ⟨rfl,rfl,rfl⟩ ?_
 rintro _ _ ⟨A172,a172,rfl,rfl,hA172,ha172⟩
 cbv
 have lA172:A172.length<2^14:=by rw [hA172,ofL_len];decide
 have bA172:Byt A172:=by rw [hA172];exact ofL_byt _
 refine call hG [] (sof_ok ⟨#[48]⟩ (by decide)) ⟨rfl,rfl,rfl⟩ ?_
 rintro _ _ ⟨A173,a173,rfl,rfl,hA173,ha173⟩
 cbv
 have lA173:A173.length<2^14:=by rw [hA173,ofL_len];decide
 have bA173:Byt A173:=by rw [hA173];exact ofL_byt _
 refine call hG [] (vcond_ok A172 A173 a172 a173 (by omega) (by omega) bA172 bA173 A171 a171 (by omega) bA171) ⟨rfl,rfl,rfl⟩ ?_
 rintro _ _ ⟨A174,a174,rfl,rfl,hA174,ha174⟩
 cbv
 have eZ:A174=Z 45:=by rw [hA174];simp only [hA171,ha171,hA172,ha172,hA173,ha173];rw [hZ];kernel_rfl
 have eS:a174=S 45:=by rw [ha174];(try simp only [hA171,ha171,hA172,ha172,hA173,ha173]);rw [hS];kernel_rfl
 clear hA174 ha174
 subst eZ eS
 refine call hG [] (sof_ok ⟨#[120,120]⟩ (by decide)) ⟨rfl,rfl,rfl⟩ ?_
 rintro _ _ ⟨A175,a175,rfl,rfl,hA175,ha175⟩
 cbv
 have eZ:A175=Z 45:=by rw [hA175,hZ];kernel_rfl
 have eS:a175=S 45:=by rw [ha175,hS];kernel_rfl
 clear hA175 ha175
 subst eZ eS
 refine call hG [] (of_ok ⟨#[49,120]⟩ (by decide)) ⟨rfl,rfl,rfl⟩ ?_
 rintro _ _ ⟨A176,a176,rfl,rfl,hA176,ha176⟩
 cbv
 have lA176:A176.length<2^14:=by rw [hA176,ofL_len];decide
 have bA176:Byt A176:=by rw [hA176];exact ofL_byt _
 refine call hG [] (of_ok ⟨#[122,49]⟩ (by decide)) ⟨rfl,rfl,rfl⟩ ?_
 rintro _ _ ⟨A177,a177,rfl,rfl,hA177,ha177⟩
 cbv
 have lA177:A177.length<2^14:=by rw [hA177,ofL_len];decide
 have bA177:Byt A177:=by rw [hA177];exact ofL_byt _
 refine call hG [] (of_ok ⟨#[48,48,48]⟩ (by decide)) ⟨rfl,rfl,rfl⟩ ?_
 rintro _ _ ⟨A178,a178,rfl,rfl,hA178,ha178⟩
 cbv
 have lA178:A178.length<2^14:=by rw [hA178,ofL_len];decide
 have bA178:Byt A178:=by rw [hA178];exact ofL_byt _
 refine call hG [] (vcond_ok A177 A178 a177 a178 (by omega) (by omega) bA177 bA178 A176 a176 (by omega) bA176) ⟨rfl,rfl,rfl⟩ ?_
 rintro _ _ ⟨A179,a179,rfl,rfl,hA179,ha179⟩
 cbv
 have eZ:A179=Z 46:=by rw [hA179];simp only [hA176,ha176,hA177,ha177,hA178,ha178];rw [hZ];kernel_rfl
 have eS:a179=S 46:=by rw [ha179];(try simp only [hA176,ha176,hA177,ha177,hA178,ha178]);rw [hS];kernel_rfl
 clear hA179 ha179
 subst eZ eS
 refine call hG [] (of_ok ⟨#[48,122,49]⟩ (by decide)) ⟨rfl,rfl,rfl⟩ ?_
 rintro _ _ ⟨A180,a180,rfl,rfl,hA180,ha180⟩
 cbv
 have eZ:A180=Z 46:=by rw [hA180,hZ];kernel_rfl
 have eS:a180=S 46:=by rw [ha180,hS];kernel_rfl
 clear hA180 ha180
 subst eZ eS
 refine call hG [] (of_ok ⟨#[48]⟩ (by decide)) ⟨rfl,rfl,rfl⟩ ?_
 rintro _ _ ⟨A181,a181,rfl,rfl,hA181,ha181⟩
 cbv
 have lA181:A181.length<2^14:=by rw [hA181,ofL_len];decide
 have bA181:Byt A181:=by rw [hA181];exact ofL_byt _
 refine call hG [] (of_ok ⟨#[49,49]⟩ (by decide)) ⟨rfl,rfl,rfl⟩ ?_
 rintro _ _ ⟨A182,a182,rfl,rfl,hA182,ha182⟩
 cbv
 have lA182:A182.length<2^14:=by rw [hA182,ofL_len];decide
 have bA182:Byt A182:=by rw [hA182];exact ofL_byt _
 refine call hG [] (sof_ok ⟨#[49]⟩ (by decide)) ⟨rfl,rfl,rfl⟩ ?_
 rintro _ _ ⟨A183,a183,rfl,rfl,hA183,ha183⟩
 cbv
 have lA183:A183.length<2^14:=by rw [hA183,ofL_len];decide
 have bA183:Byt A183:=by rw [hA183];exact ofL_byt _
 refine call hG [] (vcond_ok A182 A183 a182 a183 (by omega) (by omega) bA182 bA183 A181 a181 (by omega) bA181) ⟨rfl,rfl,rfl⟩ ?_
 rintro _ _ ⟨A184,a184,rfl,rfl,hA184,ha184⟩
 cbv
 have eZ:A184=Z 47:=by rw [hA184];simp only [hA181,ha181,hA182,ha182,hA183,ha183];rw [hZ];kernel_rfl
 have eS:a184=S 47:=by rw [ha184];(try simp only [hA181,ha181,hA182,ha182,hA183,ha183]);rw [hS];kernel_rfl
 clear hA184 ha184
 subst eZ eS
 refine call hG [] (of_ok ⟨#[48,49]⟩ (by decide)) ⟨rfl,rfl,rfl⟩ ?_
 rintro _ _ ⟨A185,a185,rfl,rfl,hA185,ha185⟩
 cbv
 have eZ:A185=Z 47:=by rw [hA185,hZ];kernel_rfl
 have eS:a185=S 47:=by rw [ha185,hS];kernel_rfl
 clear hA185 ha185
 subst eZ eS
 exact hK _ _ rfl (by constructor<;>cbv<;>simp)
end Go.Proofs.YtdgbdkfoeaollaaGreatDoor.V
