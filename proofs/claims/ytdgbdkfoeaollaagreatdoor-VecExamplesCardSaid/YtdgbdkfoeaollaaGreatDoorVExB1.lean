/- VecExamples: entries 6 to 11 (printed by VEx.py). -/
import Derived.Test.YtdgbdkfoeaollaaGreatDoorVExS
set_option linter.unusedSimpArgs false
set_option linter.unusedVariables false
set_option cbv.maxSteps 4000000
set_option maxRecDepth 100000
set_option maxHeartbeats 8000000
namespace Go.Proofs.YtdgbdkfoeaollaaGreatDoor.V
open Go Go.AL Go.SX
theorem ex_c1 {B:AH} {d:Nat→Prop} (Z:Nat→List Int) (S:Nat→Bool) (hZ:Z=exZ) (hS:S=exS):Pu B ⟨d,fun _=>none⟩ ((exOps.drop 29).take 30) (stE1 Z S) fun s'=>Le s' (stE2 Z S):=by
 have e100:Z 100=List.replicate 129 1:=by rw [hZ];rfl
 have e101:Z 101=[0,4]:=by rw [hZ];rfl
 have g100:S 100=false:=by rw [hS];rfl
 have g101:S 101=true:=by rw [hS];rfl
 have l100:(Z 100).length<2^14:=by rw [e100,List.length_replicate];decide
 have l101:(Z 101).length<2^14:=by rw [e101];decide
 have b100:Byt (Z 100):=by rw [e100];exact rep_byt (by decide)
 have b101:Byt (Z 101):=by rw [e101];unfold Byt;decide
 have l0:([]:List Int).length<2^14:=by decide
 have b0:Byt ([]:List Int):=fun x hx=>by cases hx
 obtain ⟨G,hG⟩:∃ G,G=std CX TB B ⟨d,fun _=>none⟩:=⟨_,rfl⟩
 refine pu_W hG fun K hK=>?_
 cbv
 refine call hG [] (of_ok ⟨#[49]⟩ (by decide)) ⟨rfl,rfl,rfl⟩ ?_
 rintro _ _ ⟨A24,a24,rfl,rfl,hA24,ha24⟩
 cbv
 have lA24:A24.length<2^14:=by rw [hA24,ofL_len];decide
 have bA24:Byt A24:=by rw [hA24];exact ofL_byt _
 refine call hG [] (of_ok ⟨#[48]⟩ (by decide)) ⟨rfl,rfl,rfl⟩ ?_
 rintro _ _ ⟨A25,a25,rfl,rfl,hA25,ha25⟩
 cbv
 have lA25:A25.length<2^14:=by rw [hA25,ofL_len];decide
 have bA25:Byt A25:=by rw [hA25];exact ofL_byt _
 refine call hG [] (vdiv_ok A24 A25 a24 a25 (by omega) (by omega) bA24 bA25) ⟨rfl,rfl,rfl⟩ ?_
 rintro _ _ ⟨A26,a26,rfl,rfl,hA26,ha26⟩
 cbv
 have eZ:A26=Z 6:=by rw [hA26];simp only [hA24,ha24,hA25,ha25];rw [hZ];kernel_rfl
 have eS:a26=S 6:=by rw [ha26];(try simp only [hA24,ha24,hA25,ha25]);rw [hS];kernel_rfl
 clear hA26 ha26
 subst eZ eS
 refine call hG [] (of_ok ⟨#[120]⟩ (by decide)) ⟨rfl,rfl,rfl⟩ ?_
 rintro _ _ ⟨A27,a27,rfl,rfl,hA27,ha27⟩
 cbv
 have eZ:A27=Z 6:=by rw [hA27,hZ];kernel_rfl
 have eS:a27=S 6:=by rw [ha27,hS];kernel_rfl
 clear hA27 ha27
 subst eZ eS
 refine call hG [] (sof_ok ⟨#[48,49]⟩ (by decide)) ⟨rfl,rfl,rfl⟩ ?_
 rintro _ _ ⟨A28,a28,rfl,rfl,hA28,ha28⟩
 cbv
 have lA28:A28.length<2^14:=by rw [hA28,ofL_len];decide
 have bA28:Byt A28:=by rw [hA28];exact ofL_byt _
 refine call hG [] (sof_ok ⟨#[48,48,48]⟩ (by decide)) ⟨rfl,rfl,rfl⟩ ?_
 rintro _ _ ⟨A29,a29,rfl,rfl,hA29,ha29⟩
 cbv
 have lA29:A29.length<2^14:=by rw [hA29,ofL_len];decide
 have bA29:Byt A29:=by rw [hA29];exact ofL_byt _
 refine call hG [] (vmod_ok A28 A29 a28 a29 (by omega) (by omega) bA28 bA29) ⟨rfl,rfl,rfl⟩ ?_
 rintro _ _ ⟨A30,a30,rfl,rfl,hA30,ha30⟩
 cbv
 have eZ:A30=Z 7:=by rw [hA30];simp only [hA28,ha28,hA29,ha29];rw [hZ];kernel_rfl
 have eS:a30=S 7:=by rw [ha30];(try simp only [hA28,ha28,hA29,ha29]);rw [hS];kernel_rfl
 clear hA30 ha30
 subst eZ eS
 refine call hG [] (sof_ok ⟨#[120,120,120]⟩ (by decide)) ⟨rfl,rfl,rfl⟩ ?_
 rintro _ _ ⟨A31,a31,rfl,rfl,hA31,ha31⟩
 cbv
 have eZ:A31=Z 7:=by rw [hA31,hZ];kernel_rfl
 have eS:a31=S 7:=by rw [ha31,hS];kernel_rfl
 clear hA31 ha31
 subst eZ eS
 refine call hG [] (of_ok ⟨#[49,120]⟩ (by decide)) ⟨rfl,rfl,rfl⟩ ?_
 rintro _ _ ⟨A32,a32,rfl,rfl,hA32,ha32⟩
 cbv
 have lA32:A32.length<2^14:=by rw [hA32,ofL_len];decide
 have bA32:Byt A32:=by rw [hA32];exact ofL_byt _
 refine call hG [] (of_ok ⟨#[48,49]⟩ (by decide)) ⟨rfl,rfl,rfl⟩ ?_
 rintro _ _ ⟨A33,a33,rfl,rfl,hA33,ha33⟩
 cbv
 have lA33:A33.length<2^14:=by rw [hA33,ofL_len];decide
 have bA33:Byt A33:=by rw [hA33];exact ofL_byt _
 refine call hG [] (vdiv_ok A32 A33 a32 a33 (by omega) (by omega) bA32 bA33) ⟨rfl,rfl,rfl⟩ ?_
 rintro _ _ ⟨A34,a34,rfl,rfl,hA34,ha34⟩
 cbv
 have eZ:A34=Z 8:=by rw [hA34];simp only [hA32,ha32,hA33,ha33];rw [hZ];kernel_rfl
 have eS:a34=S 8:=by rw [ha34];(try simp only [hA32,ha32,hA33,ha33]);rw [hS];kernel_rfl
 clear hA34 ha34
 subst eZ eS
 refine call hG [] (of_ok ⟨#[120,120]⟩ (by decide)) ⟨rfl,rfl,rfl⟩ ?_
 rintro _ _ ⟨A35,a35,rfl,rfl,hA35,ha35⟩
 cbv
 have eZ:A35=Z 8:=by rw [hA35,hZ];kernel_rfl
 have eS:a35=S 8:=by rw [ha35,hS];kernel_rfl
 clear hA35 ha35
 subst eZ eS
 refine call hG [] (of_ok ⟨#[48,48,49,49]⟩ (by decide)) ⟨rfl,rfl,rfl⟩ ?_
 rintro _ _ ⟨A36,a36,rfl,rfl,hA36,ha36⟩
 cbv
 have lA36:A36.length<2^14:=by rw [hA36,ofL_len];decide
 have bA36:Byt A36:=by rw [hA36];exact ofL_byt _
 refine call hG [] (of_ok ⟨#[49,48,49]⟩ (by decide)) ⟨rfl,rfl,rfl⟩ ?_
 rintro _ _ ⟨A37,a37,rfl,rfl,hA37,ha37⟩
 cbv
 have lA37:A37.length<2^14:=by rw [hA37,ofL_len];decide
 have bA37:Byt A37:=by rw [hA37];exact ofL_byt _
 refine call hG [] (vpow_ok A36 A37 a36 a37 (by omega) (by omega) bA36 bA37) ⟨rfl,rfl,rfl⟩ ?_
 rintro _ _ ⟨A38,a38,rfl,rfl,hA38,ha38⟩
 cbv
 have eZ:A38=Z 9:=by rw [hA38];simp only [hA36,ha36,hA37,ha37];rw [hZ];kernel_rfl
 have eS:a38=S 9:=by rw [ha38];(try simp only [hA36,ha36,hA37,ha37]);rw [hS];kernel_rfl
 clear hA38 ha38
 subst eZ eS
 refine call hG [] (of_ok ⟨#[48,48,49,49]⟩ (by decide)) ⟨rfl,rfl,rfl⟩ ?_
 rintro _ _ ⟨A39,a39,rfl,rfl,hA39,ha39⟩
 cbv
 have eZ:A39=Z 9:=by rw [hA39,hZ];kernel_rfl
 have eS:a39=S 9:=by rw [ha39,hS];kernel_rfl
 clear hA39 ha39
 subst eZ eS
 refine call hG [] (sof_ok ⟨#[49,49,49,49]⟩ (by decide)) ⟨rfl,rfl,rfl⟩ ?_
 rintro _ _ ⟨A40,a40,rfl,rfl,hA40,ha40⟩
 cbv
 have lA40:A40.length<2^14:=by rw [hA40,ofL_len];decide
 have bA40:Byt A40:=by rw [hA40];exact ofL_byt _
 refine call hG [] (sof_ok ⟨#[49,49]⟩ (by decide)) ⟨rfl,rfl,rfl⟩ ?_
 rintro _ _ ⟨A41,a41,rfl,rfl,hA41,ha41⟩
 cbv
 have lA41:A41.length<2^14:=by rw [hA41,ofL_len];decide
 have bA41:Byt A41:=by rw [hA41];exact ofL_byt _
 refine call hG [] (vpow_ok A40 A41 a40 a41 (by omega) (by omega) bA40 bA41) ⟨rfl,rfl,rfl⟩ ?_
 rintro _ _ ⟨A42,a42,rfl,rfl,hA42,ha42⟩
 cbv
 have eZ:A42=Z 10:=by rw [hA42];simp only [hA40,ha40,hA41,ha41];rw [hZ];kernel_rfl
 have eS:a42=S 10:=by rw [ha42];(try simp only [hA40,ha40,hA41,ha41]);rw [hS];kernel_rfl
 clear hA42 ha42
 subst eZ eS
 refine call hG [] (sof_ok ⟨#[49,49,49,49]⟩ (by decide)) ⟨rfl,rfl,rfl⟩ ?_
 rintro _ _ ⟨A43,a43,rfl,rfl,hA43,ha43⟩
 cbv
 have eZ:A43=Z 10:=by rw [hA43,hZ];kernel_rfl
 have eS:a43=S 10:=by rw [ha43,hS];kernel_rfl
 clear hA43 ha43
 subst eZ eS
 refine call hG [] (sof_ok ⟨#[49,49,49,49]⟩ (by decide)) ⟨rfl,rfl,rfl⟩ ?_
 rintro _ _ ⟨A44,a44,rfl,rfl,hA44,ha44⟩
 cbv
 have lA44:A44.length<2^14:=by rw [hA44,ofL_len];decide
 have bA44:Byt A44:=by rw [hA44];exact ofL_byt _
 refine call hG [] (sof_ok ⟨#[49,48]⟩ (by decide)) ⟨rfl,rfl,rfl⟩ ?_
 rintro _ _ ⟨A45,a45,rfl,rfl,hA45,ha45⟩
 cbv
 have lA45:A45.length<2^14:=by rw [hA45,ofL_len];decide
 have bA45:Byt A45:=by rw [hA45];exact ofL_byt _
 refine call hG [] (vpow_ok A44 A45 a44 a45 (by omega) (by omega) bA44 bA45) ⟨rfl,rfl,rfl⟩ ?_
 rintro _ _ ⟨A46,a46,rfl,rfl,hA46,ha46⟩
 cbv
 have eZ:A46=Z 11:=by rw [hA46];simp only [hA44,ha44,hA45,ha45];rw [hZ];kernel_rfl
 have eS:a46=S 11:=by rw [ha46];(try simp only [hA44,ha44,hA45,ha45]);rw [hS];kernel_rfl
 clear hA46 ha46
 subst eZ eS
 refine call hG [] (sof_ok ⟨#[48,48,48,49]⟩ (by decide)) ⟨rfl,rfl,rfl⟩ ?_
 rintro _ _ ⟨A47,a47,rfl,rfl,hA47,ha47⟩
 cbv
 have eZ:A47=Z 11:=by rw [hA47,hZ];kernel_rfl
 have eS:a47=S 11:=by rw [ha47,hS];kernel_rfl
 clear hA47 ha47
 subst eZ eS
 exact hK _ _ rfl (by constructor<;>cbv<;>simp)
end Go.Proofs.YtdgbdkfoeaollaaGreatDoor.V
