/- VecExamples: entries 0 to 5 (printed by VEx.py). -/
import Derived.Test.YtdgbdkfoeaollaaGreatDoorVExS
set_option linter.unusedSimpArgs false
set_option linter.unusedVariables false
set_option cbv.maxSteps 4000000
set_option maxRecDepth 100000
set_option maxHeartbeats 8000000
namespace Go.Proofs.YtdgbdkfoeaollaaGreatDoor.V
open Go Go.AL Go.SX
theorem ex_c0 {B:AH} {d:Nat→Prop} (Z:Nat→List Int) (S:Nat→Bool) (hZ:Z=exZ) (hS:S=exS):Pu B ⟨d,fun _=>none⟩ ((exOps.drop 0).take 29) (stE0 Z S) fun s'=>Le s' (stE1 Z S):=by
 have e100:Z 100=List.replicate 129 1:=by rw [hZ];rfl
 have e101:Z 101=[0,4]:=by rw [hZ];rfl
 have g100:S 100=false:=by rw [hS];rfl
 have g101:S 101=true:=by rw [hS];rfl
 have l100:(Z 100).length<2^14:=by rw [e100,List.length_replicate];decide
 have l101:(Z 101).length<2^14:=by rw [e101];decide
 have b100:Byt (Z 100):=by rw [e100];exact rep_byt (by decide)
 have b101:Byt (Z 101):=by rw [e101];unfold Byt;decide
 have l0:([]:List Int).length<2^14:=by decide
 have b0:Byt ([]:List Int):=fun x hx=>by cases hx
 obtain ⟨G,hG⟩:∃ G,G=std CX TB B ⟨d,fun _=>none⟩:=⟨_,rfl⟩
 refine pu_W hG fun K hK=>?_
 cbv
 refine call hG [] (vnot_ok (Z 101) (S 101) (by omega) b101) ⟨rfl,rfl,rfl⟩ ?_
 rintro _ _ ⟨A4,a4,rfl,rfl,hA4,ha4⟩
 cbv
 have eZ:A4=Z 0:=by rw [hA4];simp only [e101,g101];rw [hZ];kernel_rfl
 have eS:a4=S 0:=by rw [ha4];(try simp only [e101,g101]);rw [hS];kernel_rfl
 clear hA4 ha4
 subst eZ eS
 refine call hG [] (of_ok ⟨#[120]⟩ (by decide)) ⟨rfl,rfl,rfl⟩ ?_
 rintro _ _ ⟨A5,a5,rfl,rfl,hA5,ha5⟩
 cbv
 have eZ:A5=Z 0:=by rw [hA5,hZ];kernel_rfl
 have eS:a5=S 0:=by rw [ha5,hS];kernel_rfl
 clear hA5 ha5
 subst eZ eS
 refine call hG [] (of_ok ⟨#[48,49]⟩ (by decide)) ⟨rfl,rfl,rfl⟩ ?_
 rintro _ _ ⟨A6,a6,rfl,rfl,hA6,ha6⟩
 cbv
 have lA6:A6.length<2^14:=by rw [hA6,ofL_len];decide
 have bA6:Byt A6:=by rw [hA6];exact ofL_byt _
 refine call hG [] (vadd_ok (Z 100) A6 (S 100) a6 (by omega) (by omega) b100 bA6) ⟨rfl,rfl,rfl⟩ ?_
 rintro _ _ ⟨A7,a7,rfl,rfl,hA7,ha7⟩
 cbv
 have eZ:A7=Z 1:=by rw [hA7];simp only [e100,g100,hA6,ha6];rw [hZ];kernel_rfl
 have eS:a7=S 1:=by rw [ha7];(try simp only [e100,g100,hA6,ha6]);rw [hS];kernel_rfl
 clear hA7 ha7
 subst eZ eS
 refine call hG [] (of_ok ⟨#[120,120]⟩ (by decide)) ⟨rfl,rfl,rfl⟩ ?_
 rintro _ _ ⟨A8,a8,rfl,rfl,hA8,ha8⟩
 cbv
 have eZ:A8=Z 1:=by rw [hA8,hZ];kernel_rfl
 have eS:a8=S 1:=by rw [ha8,hS];kernel_rfl
 clear hA8 ha8
 subst eZ eS
 refine call hG [] (of_ok ⟨#[49]⟩ (by decide)) ⟨rfl,rfl,rfl⟩ ?_
 rintro _ _ ⟨A9,a9,rfl,rfl,hA9,ha9⟩
 cbv
 have lA9:A9.length<2^14:=by rw [hA9,ofL_len];decide
 have bA9:Byt A9:=by rw [hA9];exact ofL_byt _
 refine call hG [] (vOr_ok [] A9 false a9 (by omega) (by omega) b0 bA9) ⟨rfl,rfl,rfl⟩ ?_
 rintro _ _ ⟨A10,a10,rfl,rfl,hA10,ha10⟩
 cbv
 have eZ:A10=Z 2:=by rw [hA10];simp only [hA9,ha9];rw [hZ];kernel_rfl
 have eS:a10=S 2:=by rw [ha10];(try simp only [hA9,ha9]);rw [hS];kernel_rfl
 clear hA10 ha10
 subst eZ eS
 refine call hG [] (of_ok ⟨#[49]⟩ (by decide)) ⟨rfl,rfl,rfl⟩ ?_
 rintro _ _ ⟨A11,a11,rfl,rfl,hA11,ha11⟩
 cbv
 have eZ:A11=Z 2:=by rw [hA11,hZ];kernel_rfl
 have eS:a11=S 2:=by rw [ha11,hS];kernel_rfl
 clear hA11 ha11
 subst eZ eS
 refine call hG [] (sof_ok ⟨#[49,48,48,49]⟩ (by decide)) ⟨rfl,rfl,rfl⟩ ?_
 rintro _ _ ⟨A12,a12,rfl,rfl,hA12,ha12⟩
 cbv
 have lA12:A12.length<2^14:=by rw [hA12,ofL_len];decide
 have bA12:Byt A12:=by rw [hA12];exact ofL_byt _
 refine call hG [] (sof_ok ⟨#[48,48,49,48]⟩ (by decide)) ⟨rfl,rfl,rfl⟩ ?_
 rintro _ _ ⟨A13,a13,rfl,rfl,hA13,ha13⟩
 cbv
 have lA13:A13.length<2^14:=by rw [hA13,ofL_len];decide
 have bA13:Byt A13:=by rw [hA13];exact ofL_byt _
 refine call hG [] (vdiv_ok A12 A13 a12 a13 (by omega) (by omega) bA12 bA13) ⟨rfl,rfl,rfl⟩ ?_
 rintro _ _ ⟨A14,a14,rfl,rfl,hA14,ha14⟩
 cbv
 have eZ:A14=Z 3:=by rw [hA14];simp only [hA12,ha12,hA13,ha13];rw [hZ];kernel_rfl
 have eS:a14=S 3:=by rw [ha14];(try simp only [hA12,ha12,hA13,ha13]);rw [hS];kernel_rfl
 clear hA14 ha14
 subst eZ eS
 refine call hG [] (sof_ok ⟨#[49,49,48,49]⟩ (by decide)) ⟨rfl,rfl,rfl⟩ ?_
 rintro _ _ ⟨A15,a15,rfl,rfl,hA15,ha15⟩
 cbv
 have eZ:A15=Z 3:=by rw [hA15,hZ];kernel_rfl
 have eS:a15=S 3:=by rw [ha15,hS];kernel_rfl
 clear hA15 ha15
 subst eZ eS
 refine call hG [] (sof_ok ⟨#[49,48,48,49]⟩ (by decide)) ⟨rfl,rfl,rfl⟩ ?_
 rintro _ _ ⟨A16,a16,rfl,rfl,hA16,ha16⟩
 cbv
 have lA16:A16.length<2^14:=by rw [hA16,ofL_len];decide
 have bA16:Byt A16:=by rw [hA16];exact ofL_byt _
 refine call hG [] (sof_ok ⟨#[48,48,49,48]⟩ (by decide)) ⟨rfl,rfl,rfl⟩ ?_
 rintro _ _ ⟨A17,a17,rfl,rfl,hA17,ha17⟩
 cbv
 have lA17:A17.length<2^14:=by rw [hA17,ofL_len];decide
 have bA17:Byt A17:=by rw [hA17];exact ofL_byt _
 refine call hG [] (vmod_ok A16 A17 a16 a17 (by omega) (by omega) bA16 bA17) ⟨rfl,rfl,rfl⟩ ?_
 rintro _ _ ⟨A18,a18,rfl,rfl,hA18,ha18⟩
 cbv
 have eZ:A18=Z 4:=by rw [hA18];simp only [hA16,ha16,hA17,ha17];rw [hZ];kernel_rfl
 have eS:a18=S 4:=by rw [ha18];(try simp only [hA16,ha16,hA17,ha17]);rw [hS];kernel_rfl
 clear hA18 ha18
 subst eZ eS
 refine call hG [] (sof_ok ⟨#[49,49,49,49]⟩ (by decide)) ⟨rfl,rfl,rfl⟩ ?_
 rintro _ _ ⟨A19,a19,rfl,rfl,hA19,ha19⟩
 cbv
 have eZ:A19=Z 4:=by rw [hA19,hZ];kernel_rfl
 have eS:a19=S 4:=by rw [ha19,hS];kernel_rfl
 clear hA19 ha19
 subst eZ eS
 refine call hG [] (of_ok ⟨#[49,48,48,49]⟩ (by decide)) ⟨rfl,rfl,rfl⟩ ?_
 rintro _ _ ⟨A20,a20,rfl,rfl,hA20,ha20⟩
 cbv
 have lA20:A20.length<2^14:=by rw [hA20,ofL_len];decide
 have bA20:Byt A20:=by rw [hA20];exact ofL_byt _
 refine call hG [] (sof_ok ⟨#[48,48,49,48]⟩ (by decide)) ⟨rfl,rfl,rfl⟩ ?_
 rintro _ _ ⟨A21,a21,rfl,rfl,hA21,ha21⟩
 cbv
 have lA21:A21.length<2^14:=by rw [hA21,ofL_len];decide
 have bA21:Byt A21:=by rw [hA21];exact ofL_byt _
 refine call hG [] (vdiv_ok A20 A21 a20 a21 (by omega) (by omega) bA20 bA21) ⟨rfl,rfl,rfl⟩ ?_
 rintro _ _ ⟨A22,a22,rfl,rfl,hA22,ha22⟩
 cbv
 have eZ:A22=Z 5:=by rw [hA22];simp only [hA20,ha20,hA21,ha21];rw [hZ];kernel_rfl
 have eS:a22=S 5:=by rw [ha22];(try simp only [hA20,ha20,hA21,ha21]);rw [hS];kernel_rfl
 clear hA22 ha22
 subst eZ eS
 refine call hG [] (of_ok ⟨#[48,49,48,48]⟩ (by decide)) ⟨rfl,rfl,rfl⟩ ?_
 rintro _ _ ⟨A23,a23,rfl,rfl,hA23,ha23⟩
 cbv
 have eZ:A23=Z 5:=by rw [hA23,hZ];kernel_rfl
 have eS:a23=S 5:=by rw [ha23,hS];kernel_rfl
 clear hA23 ha23
 subst eZ eS
 exact hK _ _ rfl (by constructor<;>cbv<;>simp)
end Go.Proofs.YtdgbdkfoeaollaaGreatDoor.V
