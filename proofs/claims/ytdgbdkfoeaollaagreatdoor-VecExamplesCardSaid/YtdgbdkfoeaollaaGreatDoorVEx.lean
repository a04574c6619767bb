/- VecExamples: the law (printed by VEx.py). -/
import Derived.Test.YtdgbdkfoeaollaaGreatDoorVExB0
import Derived.Test.YtdgbdkfoeaollaaGreatDoorVExB1
import Derived.Test.YtdgbdkfoeaollaaGreatDoorVExB2
import Derived.Test.YtdgbdkfoeaollaaGreatDoorVExB3
import Derived.Test.YtdgbdkfoeaollaaGreatDoorVExB4
import Derived.Test.YtdgbdkfoeaollaaGreatDoorVExB5
import Derived.Test.YtdgbdkfoeaollaaGreatDoorVExB6
import Derived.Test.YtdgbdkfoeaollaaGreatDoorVExB7
import Derived.Test.YtdgbdkfoeaollaaGreatDoorVExB8
import Derived.Test.YtdgbdkfoeaollaaGreatDoorVExBT
import Derived.Test.YtdgbdkfoeaollaaGreatDoorVExR0
import Derived.Test.YtdgbdkfoeaollaaGreatDoorVW
set_option linter.unusedSimpArgs false
set_option linter.unusedVariables false
set_option cbv.maxSteps 4000000
set_option maxRecDepth 100000
set_option maxHeartbeats 8000000
namespace Go.Proofs.YtdgbdkfoeaollaaGreatDoor.V
open Go Go.AL Go.SX
theorem ex_region {B:AH} {d:Nat→Prop} (Z:Nat→List Int) (S:Nat→Bool) (hZ:Z=exZ) (hS:S=exS):Pu B ⟨d,fun _=>none⟩ exOps (stE0 Z S) fun s'=>Le s' (stEL Z S 0):=by
 have e0:exOps=exOps.drop 0:=rfl
 rw [e0]
 refine pu_app exOps 0 29 (ex_c0 Z S hZ hS) fun s0 l0=>pu_le l0 ?_
 show Pu B _ (exOps.drop 29) _ _
 refine pu_app exOps 29 30 (ex_c1 Z S hZ hS) fun s1 l1=>pu_le l1 ?_
 show Pu B _ (exOps.drop 59) _ _
 refine pu_app exOps 59 30 (ex_c2 Z S hZ hS) fun s2 l2=>pu_le l2 ?_
 show Pu B _ (exOps.drop 89) _ _
 refine pu_app exOps 89 30 (ex_c3 Z S hZ hS) fun s3 l3=>pu_le l3 ?_
 show Pu B _ (exOps.drop 119) _ _
 refine pu_app exOps 119 25 (ex_c4 Z S hZ hS) fun s4 l4=>pu_le l4 ?_
 show Pu B _ (exOps.drop 144) _ _
 refine pu_app exOps 144 26 (ex_c5 Z S hZ hS) fun s5 l5=>pu_le l5 ?_
 show Pu B _ (exOps.drop 170) _ _
 refine pu_app exOps 170 30 (ex_c6 Z S hZ hS) fun s6 l6=>pu_le l6 ?_
 show Pu B _ (exOps.drop 200) _ _
 refine pu_app exOps 200 33 (ex_c7 Z S hZ hS) fun s7 l7=>pu_le l7 ?_
 show Pu B _ (exOps.drop 233) _ _
 refine pu_app exOps 233 4 (ex_c8 Z S hZ hS) fun s8 l8=>pu_le l8 ?_
 show Pu B _ (exOps.drop 237) _ _
 exact ex_cT Z S
theorem ex_end {B:AH} {d:Nat→Prop} (q:SV→List SX.Obj→Prop) (hq:∀ x,x=true→q (.b x) []):SWs CX TB B ⟨d,fun _=>none⟩ (dropC 15 IR.fi4.code) stEF (post [.tmp 0] q):=by
 obtain ⟨G,hG⟩:∃ G,G=std CX TB B ⟨d,fun _=>none⟩:=⟨_,rfl⟩
 refine sws_seq hG fun R hR=>?_
 cbv
 refine call hG [] (sof_ok ⟨#[49,49,48]⟩ (by decide)) ⟨rfl,rfl,rfl⟩ ?_
 rintro _ _ ⟨A,a,rfl,rfl,hA,ha⟩
 cbv
 have lA:A.length<2^14:=by rw [hA,ofL_len];decide
 have bA:Byt A:=by rw [hA];exact ofL_byt _
 refine call hG [] (krb (vint_ok A a (by omega) bA) true (by rw [hA,ha];kernel_rfl)) ⟨rfl,rfl,rfl⟩ ?_
 rintro _ _ ⟨x1,rfl,rfl,hx1⟩
 cbv
 have ex1:x1=-2:=by rw [hx1,hA,ha];kernel_rfl
 refine hR _ ?_
 clear hR R
 refine sws_seq hG fun R hR=>?_
 cbv
 refine call hG [] (rfill_ok (.ofNat 1) (.ofNat 64) false (by decide)) ⟨rfl,rfl,rfl⟩ ?_
 rintro _ _ ⟨B1,b1,rfl,rfl,hB1,hb1⟩
 cbv
 have hB1:B1=List.replicate 64 1:=hB1
 have lB1:B1.length<2^14:=by rw [hB1,List.length_replicate];decide
 have bB1:Byt B1:=by rw [hB1];exact rep_byt (by decide)
 refine call hG [] (krb (vint_ok B1 b1 (by omega) bB1) false (by rw [hB1,hb1];kernel_rfl)) ⟨rfl,rfl,rfl⟩ ?_
 rintro _ _ ⟨x2,rfl,rfl,hx2⟩
 cbv
 have ex2:x2=0:=by rw [hx2,hB1,hb1];kernel_rfl
 refine hR _ ?_
 clear hR R
 refine sws_seq hG fun R hR=>?_
 cbv
 refine call hG [] (rfill_ok (.ofNat 1) (.ofNat 128) true (by decide)) ⟨rfl,rfl,rfl⟩ ?_
 rintro _ _ ⟨B2,b2,rfl,rfl,hB2,hb2⟩
 cbv
 have hB2:B2=List.replicate 128 1:=hB2
 have lB2:B2.length<2^14:=by rw [hB2,List.length_replicate];decide
 have bB2:Byt B2:=by rw [hB2];exact rep_byt (by decide)
 refine call hG [] (krb (vint_ok B2 b2 (by omega) bB2) true (by rw [hB2,hb2];kernel_rfl)) ⟨rfl,rfl,rfl⟩ ?_
 rintro _ _ ⟨x3,rfl,rfl,hx3⟩
 cbv
 have ex3:x3=-1:=by rw [hx3,hB2,hb2];kernel_rfl
 refine hR _ ?_
 clear hR R
 refine sws_seq hG fun R hR=>?_
 cbv
 refine call hG [] (sof_ok ⟨#[48,48,48,48]⟩ (by decide)) ⟨rfl,rfl,rfl⟩ ?_
 rintro _ _ ⟨A1,a1,rfl,rfl,hA1,ha1⟩
 cbv
 have lA1:A1.length<2^14:=by rw [hA1,ofL_len];decide
 have bA1:Byt A1:=by rw [hA1];exact ofL_byt _
 refine call hG [] (sof_ok ⟨#[49,48,49]⟩ (by decide)) ⟨rfl,rfl,rfl⟩ ?_
 rintro _ _ ⟨A2,a2,rfl,rfl,hA2,ha2⟩
 cbv
 have lA2:A2.length<2^14:=by rw [hA2,ofL_len];decide
 have bA2:Byt A2:=by rw [hA2];exact ofL_byt _
 refine call hG [] (kre (put_ok A1 A2 a1 a2 (.ofNat 4) (-1) (by omega) (by omega) bA1 bA2 (by unfold I64;decide) (by unfold I64;decide)) (by decide)) ⟨rfl,rfl,rfl⟩ ?_
 rintro _ _ ⟨Q,qs,rfl,rfl,hQ,hqs⟩
 cbv
 refine hR _ ?_
 clear hR R
 refine sws_seq hG fun R hR=>?_
 cbv
 refine call hG [] (sof_ok ⟨#[120,49]⟩ (by decide)) ⟨rfl,rfl,rfl⟩ ?_
 rintro _ _ ⟨A3,a3,rfl,rfl,hA3,ha3⟩
 cbv
 have lA3:A3.length<2^14:=by rw [hA3,ofL_len];decide
 have bA3:Byt A3:=by rw [hA3];exact ofL_byt _
 refine call hG [] (kre (vresize_ok A3 a3 (.ofNat 4) (by omega) bA3) (by decide)) ⟨rfl,rfl,rfl⟩ ?_
 rintro _ _ ⟨M,ms,rfl,rfl,hM,hms⟩
 cbv
 refine hR _ ?_
 clear hR R
 refine sws_seq hG fun R hR=>?_
 cbv
 refine call hG [] (sof_ok ⟨#[49,48]⟩ (by decide)) ⟨rfl,rfl,rfl⟩ ?_
 rintro _ _ ⟨A4,a4,rfl,rfl,hA4,ha4⟩
 cbv
 have lA4:A4.length<2^14:=by rw [hA4,ofL_len];decide
 have bA4:Byt A4:=by rw [hA4];exact ofL_byt _
 refine call hG [] (kre (repeat2_ok A4 a4 (.ofNat 2) (by omega) bA4) (by rw [hA4];kernel_rfl)) ⟨rfl,rfl,rfl⟩ ?_
 rintro _ _ ⟨N,ns,rfl,rfl,hN,hns⟩
 cbv
 refine hR _ ?_
 clear hR R
 refine sws_W hG ?_
 cbv
 refine ite_t hG (by rw [ex1,hG];rfl) ?_
 refine ite_t hG (by rw [ex2,hG];rfl) ?_
 refine ite_t hG (by rw [ex3,hG];rfl) ?_
 refine call hG [] (sof_ok ⟨#[49,49,49,48]⟩ (by decide)) ⟨rfl,rfl,rfl⟩ ?_
 rintro _ _ ⟨C1,c1,rfl,rfl,hC1,hc1⟩
 cbv
 have lC1:C1.length<2^14:=by rw [hC1,ofL_len];decide
 have bC1:Byt C1:=by rw [hC1];exact ofL_byt _
 have tC1:(qs == c1&&Q == C1)=true:=by rw [hQ,hqs,hA1,hA2,ha1,ha2,hC1,hc1];kernel_rfl
 have kC1:Q.length<2^20:=by { simp only [Bool.and_eq_true,beq_iff_eq] at tC1;rw [tC1.2];omega }
 refine call hG [] (kbr (c:=true) (rsame_ok Q C1 qs c1 kC1 (by omega)) tC1) ⟨rfl,rfl,rfl⟩ ?_
 rintro _ _ ⟨rfl,rfl⟩
 cbv
 refine call hG [] (sof_ok ⟨#[120,120,120,49]⟩ (by decide)) ⟨rfl,rfl,rfl⟩ ?_
 rintro _ _ ⟨C2,c2,rfl,rfl,hC2,hc2⟩
 cbv
 have lC2:C2.length<2^14:=by rw [hC2,ofL_len];decide
 have bC2:Byt C2:=by rw [hC2];exact ofL_byt _
 have tC2:(ms == c2&&M == C2)=true:=by rw [hM,hms,hA3,ha3,hC2,hc2];kernel_rfl
 have kC2:M.length<2^20:=by { simp only [Bool.and_eq_true,beq_iff_eq] at tC2;rw [tC2.2];omega }
 refine call hG [] (kbr (c:=true) (rsame_ok M C2 ms c2 kC2 (by omega)) tC2) ⟨rfl,rfl,rfl⟩ ?_
 rintro _ _ ⟨rfl,rfl⟩
 cbv
 refine call hG [] (of_ok ⟨#[49,48,49,48]⟩ (by decide)) ⟨rfl,rfl,rfl⟩ ?_
 rintro _ _ ⟨C3,c3,rfl,rfl,hC3,hc3⟩
 cbv
 have lC3:C3.length<2^14:=by rw [hC3,ofL_len];decide
 have bC3:Byt C3:=by rw [hC3];exact ofL_byt _
 have tC3:(ns == c3&&N == C3)=true:=by rw [hN,hns,hA4,hC3,hc3];kernel_rfl
 have kC3:N.length<2^20:=by { simp only [Bool.and_eq_true,beq_iff_eq] at tC3;rw [tC3.2];omega }
 refine call hG [] (kbr (c:=true) (rsame_ok N C3 ns c3 kC3 (by omega)) tC3) ⟨rfl,rfl,rfl⟩ ?_
 rintro _ _ ⟨rfl,rfl⟩
 cbv
 refine call hG [] (of_ok ⟨#[49,122,48]⟩ (by decide)) ⟨rfl,rfl,rfl⟩ ?_
 rintro _ _ ⟨D1,d1,rfl,rfl,hD1,hd1⟩
 cbv
 have lD1:D1.length<2^14:=by rw [hD1,ofL_len];decide
 have bD1:Byt D1:=by rw [hD1];exact ofL_byt _
 refine call hG [] (of_ok ⟨#[49,49,48]⟩ (by decide)) ⟨rfl,rfl,rfl⟩ ?_
 rintro _ _ ⟨E1,e1,rfl,rfl,hE1,he1⟩
 cbv
 have lE1:E1.length<2^14:=by rw [hE1,ofL_len];decide
 have bE1:Byt E1:=by rw [hE1];exact ofL_byt _
 refine call hG [] (kbr (c:=true) (vmatchZ_ok D1 E1 d1 e1 (by omega) (by omega) bD1 bE1) (by rw [hD1,hE1,hd1,he1];kernel_rfl)) ⟨rfl,rfl,rfl⟩ ?_
 rintro _ _ ⟨rfl,rfl⟩
 cbv
 refine call hG [] (of_ok ⟨#[49,120,48]⟩ (by decide)) ⟨rfl,rfl,rfl⟩ ?_
 rintro _ _ ⟨D2,d2,rfl,rfl,hD2,hd2⟩
 cbv
 have lD2:D2.length<2^14:=by rw [hD2,ofL_len];decide
 have bD2:Byt D2:=by rw [hD2];exact ofL_byt _
 refine call hG [] (of_ok ⟨#[49,49,48]⟩ (by decide)) ⟨rfl,rfl,rfl⟩ ?_
 rintro _ _ ⟨E2,e2,rfl,rfl,hE2,he2⟩
 cbv
 have lE2:E2.length<2^14:=by rw [hE2,ofL_len];decide
 have bE2:Byt E2:=by rw [hE2];exact ofL_byt _
 refine call hG [] (kbr (c:=false) (vmatchZ_ok D2 E2 d2 e2 (by omega) (by omega) bD2 bE2) (by rw [hD2,hE2,hd2,he2];kernel_rfl)) ⟨rfl,rfl,rfl⟩ ?_
 rintro _ _ ⟨rfl,rfl⟩
 cbv
 refine call hG [] (of_ok ⟨#[49,120,48]⟩ (by decide)) ⟨rfl,rfl,rfl⟩ ?_
 rintro _ _ ⟨D3,d3,rfl,rfl,hD3,hd3⟩
 cbv
 have lD3:D3.length<2^14:=by rw [hD3,ofL_len];decide
 have bD3:Byt D3:=by rw [hD3];exact ofL_byt _
 refine call hG [] (of_ok ⟨#[49,122,48]⟩ (by decide)) ⟨rfl,rfl,rfl⟩ ?_
 rintro _ _ ⟨E3,e3,rfl,rfl,hE3,he3⟩
 cbv
 have lE3:E3.length<2^14:=by rw [hE3,ofL_len];decide
 have bE3:Byt E3:=by rw [hE3];exact ofL_byt _
 refine call hG [] (kbr (c:=true) (vmatchX_ok D3 E3 d3 e3 (by omega) (by omega) bD3 bE3) (by rw [hD3,hE3,hd3,he3];kernel_rfl)) ⟨rfl,rfl,rfl⟩ ?_
 rintro _ _ ⟨rfl,rfl⟩
 cbv
 refine call hG [] (of_ok ⟨#[49,120,48]⟩ (by decide)) ⟨rfl,rfl,rfl⟩ ?_
 rintro _ _ ⟨D4,d4,rfl,rfl,hD4,hd4⟩
 cbv
 have lD4:D4.length<2^14:=by rw [hD4,ofL_len];decide
 have bD4:Byt D4:=by rw [hD4];exact ofL_byt _
 refine call hG [] (of_ok ⟨#[48,120,48]⟩ (by decide)) ⟨rfl,rfl,rfl⟩ ?_
 rintro _ _ ⟨E4,e4,rfl,rfl,hE4,he4⟩
 cbv
 have lE4:E4.length<2^14:=by rw [hE4,ofL_len];decide
 have bE4:Byt E4:=by rw [hE4];exact ofL_byt _
 refine call hG [] (kbr (c:=false) (vmatchX_ok D4 E4 d4 e4 (by omega) (by omega) bD4 bE4) (by rw [hD4,hE4,hd4,he4];kernel_rfl)) ⟨rfl,rfl,rfl⟩ ?_
 rintro _ _ ⟨rfl,rfl⟩
 cbv
 refine call hG [] (of_ok ⟨#[120]⟩ (by decide)) ⟨rfl,rfl,rfl⟩ ?_
 rintro _ _ ⟨D5,d5,rfl,rfl,hD5,hd5⟩
 cbv
 have lD5:D5.length<2^14:=by rw [hD5,ofL_len];decide
 have bD5:Byt D5:=by rw [hD5];exact ofL_byt _
 refine call hG [] (of_ok ⟨#[48,120]⟩ (by decide)) ⟨rfl,rfl,rfl⟩ ?_
 rintro _ _ ⟨E5,e5,rfl,rfl,hE5,he5⟩
 cbv
 have lE5:E5.length<2^14:=by rw [hE5,ofL_len];decide
 have bE5:Byt E5:=by rw [hE5];exact ofL_byt _
 refine call hG [] (kbr (c:=true) (vmatchZ_ok D5 E5 d5 e5 (by omega) (by omega) bD5 bE5) (by rw [hD5,hE5,hd5,he5];kernel_rfl)) ⟨rfl,rfl,rfl⟩ ?_
 rintro _ _ ⟨rfl,rfl⟩
 cbv
 refine call hG [] (of_ok ⟨#[120,122,49]⟩ (by decide)) ⟨rfl,rfl,rfl⟩ ?_
 rintro _ _ ⟨D6,d6,rfl,rfl,hD6,hd6⟩
 cbv
 have lD6:D6.length<2^14:=by rw [hD6,ofL_len];decide
 have bD6:Byt D6:=by rw [hD6];exact ofL_byt _
 refine call hG [] (of_ok ⟨#[48,49,49]⟩ (by decide)) ⟨rfl,rfl,rfl⟩ ?_
 rintro _ _ ⟨E6,e6,rfl,rfl,hE6,he6⟩
 cbv
 have lE6:E6.length<2^14:=by rw [hE6,ofL_len];decide
 have bE6:Byt E6:=by rw [hE6];exact ofL_byt _
 refine call hG [] (kbr (c:=true) (vleq_ok D6 E6 d6 e6 (by omega) (by omega)) (by rw [hD6,hE6,hd6,he6];kernel_rfl)) ⟨rfl,rfl,rfl⟩ ?_
 rintro _ _ ⟨rfl,rfl⟩
 cbv
 refine call hG [] (of_ok ⟨#[120]⟩ (by decide)) ⟨rfl,rfl,rfl⟩ ?_
 rintro _ _ ⟨D7,d7,rfl,rfl,hD7,hd7⟩
 cbv
 have lD7:D7.length<2^14:=by rw [hD7,ofL_len];decide
 have bD7:Byt D7:=by rw [hD7];exact ofL_byt _
 refine call hG [] (sof_ok ⟨#[120]⟩ (by decide)) ⟨rfl,rfl,rfl⟩ ?_
 rintro _ _ ⟨E7,e7,rfl,rfl,hE7,he7⟩
 cbv
 have lE7:E7.length<2^14:=by rw [hE7,ofL_len];decide
 have bE7:Byt E7:=by rw [hE7];exact ofL_byt _
 refine call hG [] (kbr (c:=false) (vleq_ok D7 E7 d7 e7 (by omega) (by omega)) (by rw [hD7,hE7,hd7,he7];kernel_rfl)) ⟨rfl,rfl,rfl⟩ ?_
 rintro _ _ ⟨rfl,rfl⟩
 cbv
 refine call hG [] (of_ok ⟨#[120,48]⟩ (by decide)) ⟨rfl,rfl,rfl⟩ ?_
 rintro _ _ ⟨D8,d8,rfl,rfl,hD8,hd8⟩
 cbv
 have lD8:D8.length<2^14:=by rw [hD8,ofL_len];decide
 have bD8:Byt D8:=by rw [hD8];exact ofL_byt _
 refine call hG [] (kin (c:=2) (truth_ok D8 d8 (by omega) bD8) (by rw [hD8];kernel_rfl)) ⟨rfl,rfl,rfl⟩ ?_
 rintro _ _ ⟨rfl,rfl⟩
 cbv
 refine call hG [] (of_ok ⟨#[120,49]⟩ (by decide)) ⟨rfl,rfl,rfl⟩ ?_
 rintro _ _ ⟨D9,d9,rfl,rfl,hD9,hd9⟩
 cbv
 have lD9:D9.length<2^14:=by rw [hD9,ofL_len];decide
 have bD9:Byt D9:=by rw [hD9];exact ofL_byt _
 refine call hG [] (kin (c:=1) (truth_ok D9 d9 (by omega) bD9) (by rw [hD9];kernel_rfl)) ⟨rfl,rfl,rfl⟩ ?_
 rintro _ _ ⟨rfl,rfl⟩
 cbv
 refine okd hG (by kernel_rfl) ?_
 exact hq _ rfl
def InB (id:Nat) (k:Ctl→SX.St→Prop) (c:Ctl) (s:SX.St):Prop:=match c with
 | .exit j=>k (bif j.beq id then .normal else .exit j) s
 | .normal=>k .normal s
 | .ret=>k .ret s
theorem ex_law:FvC CX TB (.f 4 [] []) [] [] (RB true):=by
 refine fn_sws rfl rfl fun B d q hq0=>?_
 have hq:∀ x,x=true→q (.b x) []:=fun x hx=>hq0 _ _ ⟨x,rfl,rfl,hx⟩
 obtain ⟨Z,hZ⟩:∃ Z,Z=exZ:=⟨_,rfl⟩
 obtain ⟨S,hS⟩:∃ S,S=exS:=⟨_,rfl⟩
 have e100:Z 100=List.replicate 129 1:=by rw [hZ];rfl
 have e101:Z 101=[0,4]:=by rw [hZ];rfl
 have g100:S 100=false:=by rw [hS];rfl
 have g101:S 101=true:=by rw [hS];rfl
 have hl:∀ i,(Z i).length<2^20:=fun i=>by rw [hZ];unfold exZ;split<;>first | (rw [List.length_replicate];decide) | decide
 obtain ⟨G,hG⟩:∃ G,G=std CX TB B ⟨d,fun _=>none⟩:=⟨_,rfl⟩
 refine sws_seq hG fun R hR=>?_
 cbv
 refine hR _ ?_
 clear hR R
 refine sws_seq hG fun R hR=>?_
 cbv
 refine call hG [] (kbr (c:=true) awake_ok rfl) ⟨rfl,rfl,rfl⟩ ?_
 rintro _ _ ⟨rfl,rfl⟩
 cbv
 refine hR _ ?_
 clear hR R
 refine sws_seq hG fun R hR=>?_
 cbv
 refine call hG [] (rfill_ok (.ofNat 1) (.ofNat 129) false (by decide)) ⟨rfl,rfl,rfl⟩ ?_
 rintro _ _ ⟨W,w,rfl,rfl,hW,hw⟩
 cbv
 have hW:W=List.replicate 129 1:=hW
 have lW:W.length<2^14:=by rw [hW,List.length_replicate];decide
 have bW:Byt W:=by rw [hW];exact rep_byt (by decide)
 refine hR _ ?_
 clear hR R
 refine sws_seq hG fun R hR=>?_
 cbv
 refine call hG [] (kre_f 12 (fromInt_ok (.ofNat 1) (.ofNat 0) false (by unfold I64;decide)) (by decide) rfl) ⟨rfl,rfl,rfl⟩ ?_
 rintro _ _ ⟨rfl,rfl⟩
 cbv
 refine hR _ ?_
 clear hR R
 refine sws_seq hG fun R hR=>?_
 cbv
 refine call hG [] (kre_f 12 (vunk_ok (.ofNat 129) false) (by decide) rfl) ⟨rfl,rfl,rfl⟩ ?_
 rintro _ _ ⟨rfl,rfl⟩
 cbv
 refine hR _ ?_
 clear hR R
 refine sws_seq hG fun R hR=>?_
 cbv
 refine call hG [] (of_ok ⟨#[49]⟩ (by decide)) ⟨rfl,rfl,rfl⟩ ?_
 rintro _ _ ⟨A5,a5,rfl,rfl,hA5,ha5⟩
 cbv
 have lA5:A5.length<2^14:=by rw [hA5,ofL_len];decide
 have bA5:Byt A5:=by rw [hA5];exact ofL_byt _
 refine call hG [] (kre_f 12 (vresize_ok A5 a5 (.ofNat 0) (by omega) bA5) (by decide) rfl) ⟨rfl,rfl,rfl⟩ ?_
 rintro _ _ ⟨rfl,rfl⟩
 cbv
 refine hR _ ?_
 clear hR R
 refine sws_seq hG fun R hR=>?_
 cbv
 refine call hG [] (kre_f 4 concat0_ok rfl rfl) ⟨rfl,rfl,rfl⟩ ?_
 rintro _ _ ⟨rfl,rfl⟩
 cbv
 refine hR _ ?_
 clear hR R
 refine sws_seq hG fun R hR=>?_
 cbv
 refine call hG [] (rfill_ok (.ofNat 1) (.ofNat 128) false (by decide)) ⟨rfl,rfl,rfl⟩ ?_
 rintro _ _ ⟨F7,f7,rfl,rfl,hF7,hf7⟩
 cbv
 have hF7:F7=List.replicate 128 1:=hF7
 have lF7:F7.length<2^14:=by rw [hF7,List.length_replicate];decide
 have bF7:Byt F7:=by rw [hF7];exact rep_byt (by decide)
 refine call hG [] (of_ok ⟨#[49]⟩ (by decide)) ⟨rfl,rfl,rfl⟩ ?_
 rintro _ _ ⟨A7,a7,rfl,rfl,hA7,ha7⟩
 cbv
 have lA7:A7.length<2^14:=by rw [hA7,ofL_len];decide
 have bA7:Byt A7:=by rw [hA7];exact ofL_byt _
 refine call hG [] (kre_f 12 (concat2_ok F7 A7 f7 a7 (by omega) (by omega)) (by rw [hF7,hA7];kernel_rfl) rfl) ⟨rfl,rfl,rfl⟩ ?_
 rintro _ _ ⟨rfl,rfl⟩
 cbv
 refine hR _ ?_
 clear hR R
 refine sws_seq hG fun R hR=>?_
 cbv
 refine call hG [] (of_ok ⟨#[49,48]⟩ (by decide)) ⟨rfl,rfl,rfl⟩ ?_
 rintro _ _ ⟨A8,a8,rfl,rfl,hA8,ha8⟩
 cbv
 have lA8:A8.length<2^14:=by rw [hA8,ofL_len];decide
 have bA8:Byt A8:=by rw [hA8];exact ofL_byt _
 refine call hG [] (kre_f 1 (repeat2_ok A8 a8 (.ofNat 0) (by omega) bA8) (by rw [hA8];kernel_rfl) (by decide)) ⟨rfl,rfl,rfl⟩ ?_
 rintro _ _ ⟨rfl,rfl⟩
 cbv
 refine hR _ ?_
 clear hR R
 refine sws_seq hG fun R hR=>?_
 cbv
 refine call hG [] (of_ok ⟨#[49,48]⟩ (by decide)) ⟨rfl,rfl,rfl⟩ ?_
 rintro _ _ ⟨A9,a9,rfl,rfl,hA9,ha9⟩
 cbv
 have lA9:A9.length<2^14:=by rw [hA9,ofL_len];decide
 have bA9:Byt A9:=by rw [hA9];exact ofL_byt _
 refine call hG [] (kre_f 12 (repeat2_ok A9 a9 (.ofNat 65) (by omega) bA9) (by rw [hA9];kernel_rfl) (by decide)) ⟨rfl,rfl,rfl⟩ ?_
 rintro _ _ ⟨rfl,rfl⟩
 cbv
 refine hR _ ?_
 clear hR R
 refine sws_seq hG fun R hR=>?_
 cbv
 refine call hG [] (of_ok ⟨#[49,48]⟩ (by decide)) ⟨rfl,rfl,rfl⟩ ?_
 rintro _ _ ⟨A10,a10,rfl,rfl,hA10,ha10⟩
 cbv
 have lA10:A10.length<2^14:=by rw [hA10,ofL_len];decide
 have bA10:Byt A10:=by rw [hA10];exact ofL_byt _
 refine call hG [] (kre_f 1 (slice_ok A10 a10 (.ofNat 0) (.ofNat 1) (by omega) bA10 (by unfold I64;decide) (by unfold I64;decide)) (by decide) (by decide)) ⟨rfl,rfl,rfl⟩ ?_
 rintro _ _ ⟨rfl,rfl⟩
 cbv
 refine hR _ ?_
 clear hR R
 refine sws_seq hG fun R hR=>?_
 cbv
 refine call hG [] (of_ok ⟨#[49,48]⟩ (by decide)) ⟨rfl,rfl,rfl⟩ ?_
 rintro _ _ ⟨A11,a11,rfl,rfl,hA11,ha11⟩
 cbv
 have lA11:A11.length<2^14:=by rw [hA11,ofL_len];decide
 have bA11:Byt A11:=by rw [hA11];exact ofL_byt _
 refine call hG [] (kre_f 12 (slice_ok A11 a11 (.ofNat 4611686018427387904) (-4611686018427387904) (by omega) bA11 (by unfold I64;decide) (by unfold I64;decide)) (by decide) (by decide)) ⟨rfl,rfl,rfl⟩ ?_
 rintro _ _ ⟨rfl,rfl⟩
 cbv
 refine hR _ ?_
 clear hR R
 refine sws_seq hG fun R hR=>?_
 cbv
 refine call hG [] (of_ok ⟨#[49,48]⟩ (by decide)) ⟨rfl,rfl,rfl⟩ ?_
 rintro _ _ ⟨A12,a12,rfl,rfl,hA12,ha12⟩
 cbv
 have lA12:A12.length<2^14:=by rw [hA12,ofL_len];decide
 have bA12:Byt A12:=by rw [hA12];exact ofL_byt _
 refine call hG [] (of_ok ⟨#[49]⟩ (by decide)) ⟨rfl,rfl,rfl⟩ ?_
 rintro _ _ ⟨A13,a13,rfl,rfl,hA13,ha13⟩
 cbv
 have lA13:A13.length<2^14:=by rw [hA13,ofL_len];decide
 have bA13:Byt A13:=by rw [hA13];exact ofL_byt _
 refine call hG [] (kre_f 12 (put_ok A12 A13 a12 a13 (.ofNat 128) (.ofNat 0) (by omega) (by omega) bA12 bA13 (by unfold I64;decide) (by unfold I64;decide)) (by decide) (by decide)) ⟨rfl,rfl,rfl⟩ ?_
 rintro _ _ ⟨rfl,rfl⟩
 cbv
 refine hR _ ?_
 clear hR R
 refine sws_seq hG fun R hR=>?_
 cbv
 refine call hG [] (kin (c:=4) (check_ok [] false) rfl) ⟨rfl,rfl,rfl⟩ ?_
 rintro _ _ ⟨rfl,rfl⟩
 cbv
 refine call hG [] (kin (c:=5) (check_ok W w) (by rw [hW];kernel_rfl)) ⟨rfl,rfl,rfl⟩ ?_
 rintro _ _ ⟨rfl,rfl⟩
 cbv
 refine call hG [] (kin (c:=1) (check_ok [0,4] true) rfl) ⟨rfl,rfl,rfl⟩ ?_
 rintro _ _ ⟨rfl,rfl⟩
 cbv
 refine hR _ (sws_le (s':=stE0 Z S) (by constructor<;>cbv<;>simp [e100,e101,g100,g101,hW,hw]) ?_)
 clear hR R
 refine sws_seq2 (sws_seq2 ?_)
 refine pu_region (ex_region Z S hZ hS) fun s' hle=>?_
 simp only [nk]
 refine sws_le hle ?_
 intro m E H hs
 refine Cw.block ((ex_r0 Z S hl (InB 0 (nk (fun s'=>SWs CX TB B ⟨d,fun _=>none⟩ (dropC 15 IR.fi4.code) s' (post [.tmp 0] q)) (post [.tmp 0] q))) (fun s' h=>sws_le h (ex_end q hq)) m E H hs).mono ?_)
 rintro c E' H' ⟨s',m',h1,h2⟩
 cases c with
 | normal=>exact ⟨s',m',h1,h2⟩
 | exit k=>exact ⟨s',m',h1,h2⟩
 | ret=>exact ⟨s',m',h1,h2⟩
end Go.Proofs.YtdgbdkfoeaollaaGreatDoor.V
