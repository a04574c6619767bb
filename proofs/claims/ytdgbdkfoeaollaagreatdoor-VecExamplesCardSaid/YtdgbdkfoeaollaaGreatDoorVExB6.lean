/- VecExamples: entries 36 to 41 (printed by VEx.py). -/
import Derived.Test.YtdgbdkfoeaollaaGreatDoorVExS
set_option linter.unusedSimpArgs false
set_option linter.unusedVariables false
set_option cbv.maxSteps 4000000
set_option maxRecDepth 100000
set_option maxHeartbeats 8000000
namespace Go.Proofs.YtdgbdkfoeaollaaGreatDoor.V
open Go Go.AL Go.SX
theorem ex_c6 {B:AH} {d:Nat→Prop} (Z:Nat→List Int) (S:Nat→Bool) (hZ:Z=exZ) (hS:S=exS):Pu B ⟨d,fun _=>none⟩ ((exOps.drop 170).take 30) (stE6 Z S) fun s'=>Le s' (stE7 Z S):=by
 have e100:Z 100=List.replicate 129 1:=by rw [hZ];rfl
 have e101:Z 101=[0,4]:=by rw [hZ];rfl
 have g100:S 100=false:=by rw [hS];rfl
 have g101:S 101=true:=by rw [hS];rfl
 have l100:(Z 100).length<2^14:=by rw [e100,List.length_replicate];decide
 have l101:(Z 101).length<2^14:=by rw [e101];decide
 have b100:Byt (Z 100):=by rw [e100];exact rep_byt (by decide)
 have b101:Byt (Z 101):=by rw [e101];unfold Byt;decide
 have l0:([]:List Int).length<2^14:=by decide
 have b0:Byt ([]:List Int):=fun x hx=>by cases hx
 obtain ⟨G,hG⟩:∃ G,G=std CX TB B ⟨d,fun _=>none⟩:=⟨_,rfl⟩
 refine pu_W hG fun K hK=>?_
 cbv
 refine call hG [] (sof_ok ⟨#[49,49]⟩ (by decide)) ⟨rfl,rfl,rfl⟩ ?_
 rintro _ _ ⟨A135,a135,rfl,rfl,hA135,ha135⟩
 cbv
 have lA135:A135.length<2^14:=by rw [hA135,ofL_len];decide
 have bA135:Byt A135:=by rw [hA135];exact ofL_byt _
 refine call hG [] (sof_ok ⟨#[48,48,49]⟩ (by decide)) ⟨rfl,rfl,rfl⟩ ?_
 rintro _ _ ⟨A136,a136,rfl,rfl,hA136,ha136⟩
 cbv
 have lA136:A136.length<2^14:=by rw [hA136,ofL_len];decide
 have bA136:Byt A136:=by rw [hA136];exact ofL_byt _
 refine call hG [] (kv1 (vlt_ok A135 A136 a135 a136 (by omega) (by omega) bA135 bA136)) ⟨rfl,rfl,rfl⟩ ?_
 rintro _ _ ⟨A137,a137,rfl,rfl,hA137,ha137⟩
 cbv
 have eZ:A137=Z 36:=by rw [hA137];simp only [hA135,ha135,hA136,ha136];rw [hZ];kernel_rfl
 have eS:a137=S 36:=by rw [ha137];(try simp only [hA135,ha135,hA136,ha136]);rw [hS];kernel_rfl
 clear hA137 ha137
 subst eZ eS
 refine call hG [] (of_ok ⟨#[49]⟩ (by decide)) ⟨rfl,rfl,rfl⟩ ?_
 rintro _ _ ⟨A138,a138,rfl,rfl,hA138,ha138⟩
 cbv
 have eZ:A138=Z 36:=by rw [hA138,hZ];kernel_rfl
 have eS:a138=S 36:=by rw [ha138,hS];kernel_rfl
 clear hA138 ha138
 subst eZ eS
 refine call hG [] (of_ok ⟨#[49,49]⟩ (by decide)) ⟨rfl,rfl,rfl⟩ ?_
 rintro _ _ ⟨A139,a139,rfl,rfl,hA139,ha139⟩
 cbv
 have lA139:A139.length<2^14:=by rw [hA139,ofL_len];decide
 have bA139:Byt A139:=by rw [hA139];exact ofL_byt _
 refine call hG [] (sof_ok ⟨#[48,48,49]⟩ (by decide)) ⟨rfl,rfl,rfl⟩ ?_
 rintro _ _ ⟨A140,a140,rfl,rfl,hA140,ha140⟩
 cbv
 have lA140:A140.length<2^14:=by rw [hA140,ofL_len];decide
 have bA140:Byt A140:=by rw [hA140];exact ofL_byt _
 refine call hG [] (kv1 (vlt_ok A139 A140 a139 a140 (by omega) (by omega) bA139 bA140)) ⟨rfl,rfl,rfl⟩ ?_
 rintro _ _ ⟨A141,a141,rfl,rfl,hA141,ha141⟩
 cbv
 have eZ:A141=Z 37:=by rw [hA141];simp only [hA139,ha139,hA140,ha140];rw [hZ];kernel_rfl
 have eS:a141=S 37:=by rw [ha141];(try simp only [hA139,ha139,hA140,ha140]);rw [hS];kernel_rfl
 clear hA141 ha141
 subst eZ eS
 refine call hG [] (of_ok ⟨#[48]⟩ (by decide)) ⟨rfl,rfl,rfl⟩ ?_
 rintro _ _ ⟨A142,a142,rfl,rfl,hA142,ha142⟩
 cbv
 have eZ:A142=Z 37:=by rw [hA142,hZ];kernel_rfl
 have eS:a142=S 37:=by rw [ha142,hS];kernel_rfl
 clear hA142 ha142
 subst eZ eS
 refine call hG [] (of_ok ⟨#[49,120]⟩ (by decide)) ⟨rfl,rfl,rfl⟩ ?_
 rintro _ _ ⟨A143,a143,rfl,rfl,hA143,ha143⟩
 cbv
 have lA143:A143.length<2^14:=by rw [hA143,ofL_len];decide
 have bA143:Byt A143:=by rw [hA143];exact ofL_byt _
 refine call hG [] (of_ok ⟨#[48,48]⟩ (by decide)) ⟨rfl,rfl,rfl⟩ ?_
 rintro _ _ ⟨A144,a144,rfl,rfl,hA144,ha144⟩
 cbv
 have lA144:A144.length<2^14:=by rw [hA144,ofL_len];decide
 have bA144:Byt A144:=by rw [hA144];exact ofL_byt _
 refine call hG [] (kv1 (vge_ok A143 A144 a143 a144 (by omega) (by omega) bA143 bA144)) ⟨rfl,rfl,rfl⟩ ?_
 rintro _ _ ⟨A145,a145,rfl,rfl,hA145,ha145⟩
 cbv
 have eZ:A145=Z 38:=by rw [hA145];simp only [hA143,ha143,hA144,ha144];rw [hZ];kernel_rfl
 have eS:a145=S 38:=by rw [ha145];(try simp only [hA143,ha143,hA144,ha144]);rw [hS];kernel_rfl
 clear hA145 ha145
 subst eZ eS
 refine call hG [] (of_ok ⟨#[120]⟩ (by decide)) ⟨rfl,rfl,rfl⟩ ?_
 rintro _ _ ⟨A146,a146,rfl,rfl,hA146,ha146⟩
 cbv
 have eZ:A146=Z 38:=by rw [hA146,hZ];kernel_rfl
 have eS:a146=S 38:=by rw [ha146,hS];kernel_rfl
 clear hA146 ha146
 subst eZ eS
 refine call hG [] (of_ok ⟨#[48,49]⟩ (by decide)) ⟨rfl,rfl,rfl⟩ ?_
 rintro _ _ ⟨A147,a147,rfl,rfl,hA147,ha147⟩
 cbv
 have lA147:A147.length<2^14:=by rw [hA147,ofL_len];decide
 have bA147:Byt A147:=by rw [hA147];exact ofL_byt _
 refine call hG [] (of_ok ⟨#[49]⟩ (by decide)) ⟨rfl,rfl,rfl⟩ ?_
 rintro _ _ ⟨A148,a148,rfl,rfl,hA148,ha148⟩
 cbv
 have lA148:A148.length<2^14:=by rw [hA148,ofL_len];decide
 have bA148:Byt A148:=by rw [hA148];exact ofL_byt _
 refine call hG [] (kv1 (vle_ok A147 A148 a147 a148 (by omega) (by omega) bA147 bA148)) ⟨rfl,rfl,rfl⟩ ?_
 rintro _ _ ⟨A149,a149,rfl,rfl,hA149,ha149⟩
 cbv
 have eZ:A149=Z 39:=by rw [hA149];simp only [hA147,ha147,hA148,ha148];rw [hZ];kernel_rfl
 have eS:a149=S 39:=by rw [ha149];(try simp only [hA147,ha147,hA148,ha148]);rw [hS];kernel_rfl
 clear hA149 ha149
 subst eZ eS
 refine call hG [] (of_ok ⟨#[49]⟩ (by decide)) ⟨rfl,rfl,rfl⟩ ?_
 rintro _ _ ⟨A150,a150,rfl,rfl,hA150,ha150⟩
 cbv
 have eZ:A150=Z 39:=by rw [hA150,hZ];kernel_rfl
 have eS:a150=S 39:=by rw [ha150,hS];kernel_rfl
 clear hA150 ha150
 subst eZ eS
 refine call hG [] (sof_ok ⟨#[48]⟩ (by decide)) ⟨rfl,rfl,rfl⟩ ?_
 rintro _ _ ⟨A151,a151,rfl,rfl,hA151,ha151⟩
 cbv
 have lA151:A151.length<2^14:=by rw [hA151,ofL_len];decide
 have bA151:Byt A151:=by rw [hA151];exact ofL_byt _
 refine call hG [] (sof_ok ⟨#[49]⟩ (by decide)) ⟨rfl,rfl,rfl⟩ ?_
 rintro _ _ ⟨A152,a152,rfl,rfl,hA152,ha152⟩
 cbv
 have lA152:A152.length<2^14:=by rw [hA152,ofL_len];decide
 have bA152:Byt A152:=by rw [hA152];exact ofL_byt _
 refine call hG [] (kv1 (vgt_ok A151 A152 a151 a152 (by omega) (by omega) bA151 bA152)) ⟨rfl,rfl,rfl⟩ ?_
 rintro _ _ ⟨A153,a153,rfl,rfl,hA153,ha153⟩
 cbv
 have eZ:A153=Z 40:=by rw [hA153];simp only [hA151,ha151,hA152,ha152];rw [hZ];kernel_rfl
 have eS:a153=S 40:=by rw [ha153];(try simp only [hA151,ha151,hA152,ha152]);rw [hS];kernel_rfl
 clear hA153 ha153
 subst eZ eS
 refine call hG [] (of_ok ⟨#[49]⟩ (by decide)) ⟨rfl,rfl,rfl⟩ ?_
 rintro _ _ ⟨A154,a154,rfl,rfl,hA154,ha154⟩
 cbv
 have eZ:A154=Z 40:=by rw [hA154,hZ];kernel_rfl
 have eS:a154=S 40:=by rw [ha154,hS];kernel_rfl
 clear hA154 ha154
 subst eZ eS
 refine call hG [] (of_ok ⟨#[49,120]⟩ (by decide)) ⟨rfl,rfl,rfl⟩ ?_
 rintro _ _ ⟨A155,a155,rfl,rfl,hA155,ha155⟩
 cbv
 have lA155:A155.length<2^14:=by rw [hA155,ofL_len];decide
 have bA155:Byt A155:=by rw [hA155];exact ofL_byt _
 refine call hG [] (of_ok ⟨#[48,120]⟩ (by decide)) ⟨rfl,rfl,rfl⟩ ?_
 rintro _ _ ⟨A156,a156,rfl,rfl,hA156,ha156⟩
 cbv
 have lA156:A156.length<2^14:=by rw [hA156,ofL_len];decide
 have bA156:Byt A156:=by rw [hA156];exact ofL_byt _
 refine call hG [] (kv1 (vne_ok A155 A156 a155 a156 (by omega) (by omega) bA155 bA156)) ⟨rfl,rfl,rfl⟩ ?_
 rintro _ _ ⟨A157,a157,rfl,rfl,hA157,ha157⟩
 cbv
 have eZ:A157=Z 41:=by rw [hA157];simp only [hA155,ha155,hA156,ha156];rw [hZ];kernel_rfl
 have eS:a157=S 41:=by rw [ha157];(try simp only [hA155,ha155,hA156,ha156]);rw [hS];kernel_rfl
 clear hA157 ha157
 subst eZ eS
 refine call hG [] (of_ok ⟨#[49]⟩ (by decide)) ⟨rfl,rfl,rfl⟩ ?_
 rintro _ _ ⟨A158,a158,rfl,rfl,hA158,ha158⟩
 cbv
 have eZ:A158=Z 41:=by rw [hA158,hZ];kernel_rfl
 have eS:a158=S 41:=by rw [ha158,hS];kernel_rfl
 clear hA158 ha158
 subst eZ eS
 exact hK _ _ rfl (by constructor<;>cbv<;>simp)
end Go.Proofs.YtdgbdkfoeaollaaGreatDoor.V
