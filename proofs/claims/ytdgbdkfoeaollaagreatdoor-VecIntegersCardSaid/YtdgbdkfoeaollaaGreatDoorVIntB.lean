/- VecIntegers: comparisons (printed by VInt.py). -/
import Derived.Test.YtdgbdkfoeaollaaGreatDoorVIntA
import Derived.Test.YtdgbdkfoeaollaaGreatDoorVZc
import Derived.Test.YtdgbdkfoeaollaaGreatDoorVG
import Derived.Test.YtdgbdkfoeaollaaGreatDoorVY
set_option linter.unusedSimpArgs false
set_option linter.unusedVariables false
set_option cbv.maxSteps 4000000
set_option maxRecDepth 100000
set_option maxHeartbeats 8000000
namespace Go.Proofs.YtdgbdkfoeaollaaGreatDoor.V
open Go Go.AL Go.SX
def stM (A B:List Int) (s t g:Bool) (i k w:Int) (M1 M2 M3 M4 M5 M6 M7 M8 M9 M10:Int) (k1 k2 k3 k4 k5 k6 k7 k8 k9 k10 v1 v2 v3 v4 v5 v6 v7 v8 v9 v10:Bool) (j:Nat):SX.St:=⟨((((((((((T.nil.set 4 (SV.b s)).set 13 (.o 1 0)).set 15 (.o 3 0)).set 17 (.b g)).set 20 (.i .i64 i)).set 22 (.i .i64 k)).set 24 (.i .i64 w)).set 310 (.os 14 0 10 3)).set 311 (.n .i64 10)).set 312 (.n .i64 j)),[.u A,.x [.s 0,.b s],.u B,.x [.s 2,.b t],.u [M1],.u [M2],.u [M3],.u [M4],.u [M5],.u [M6],.u [M7],.u [M8],.u [M9],.u [M10],.x [.s 4,.b k1,.b v1,.s 5,.b k2,.b v2,.s 6,.b k3,.b v3,.s 7,.b k4,.b v4,.s 8,.b k5,.b v5,.s 9,.b k6,.b v6,.s 10,.b k7,.b v7,.s 11,.b k8,.b v8,.s 12,.b k9,.b v9,.s 13,.b k10,.b v10]]⟩
def pc12:IC:=match dropC 12 IR.fi7.code with | .seq (.seq _ b) _=>b | _=>.skip
theorem int_r10 {B':AH} {d:Nat→Prop} {A B:List Int} {s t g:Bool} {i k w:Int} (M1 M2 M3 M4 M5 M6 M7 M8 M9 M10:Int) (k1 k2 k3 k4 k5 k6 k7 k8 k9 k10 v1 v2 v3 v4 v5 v6 v7 v8 v9 v10:Bool) (h1:k1=false∧M1=ofB v1) (h2:k2=false∧M2=ofB v2) (h3:k3=false∧M3=ofB v3) (h4:k4=false∧M4=ofB v4) (h5:k5=false∧M5=ofB v5) (h6:k6=false∧M6=ofB v6) (h7:k7=false∧M7=ofB v7) (h8:k8=false∧M8=ofB v8) (h9:k9=false∧M9=ofB v9) (h10:k10=false∧M10=ofB v10) (K:Ctl→SX.St→Prop) (hK:∀ s',Le s' (stI A B s t g i k w)→K .normal s') :
  SWs CX TB B' ⟨d,fun _=>none⟩ pc12 (stM A B s t g i k w M1 M2 M3 M4 M5 M6 M7 M8 M9 M10 k1 k2 k3 k4 k5 k6 k7 k8 k9 k10 v1 v2 v3 v4 v5 v6 v7 v8 v9 v10 0) K:=by
 obtain ⟨G,hG⟩:∃ G,G=std CX TB B' ⟨d,fun _=>none⟩:=⟨_,rfl⟩
 refine sws_W hG ?_
 cbv
 refine lp_le hG (s':=stM A B s t g i k w M1 M2 M3 M4 M5 M6 M7 M8 M9 M10 k1 k2 k3 k4 k5 k6 k7 k8 k9 k10 v1 v2 v3 v4 v5 v6 v7 v8 v9 v10 0) (by constructor<;>cbv<;>simp) ?_
 refine lp_one hG ?_
 cbv
 refine call hG [] (ofB_ok v1) ⟨rfl,rfl,rfl⟩ ?_
 rintro _ _ ⟨c,rfl,rfl,hc⟩
 cbv
 refine call hG [] (kbr (c:=true) (rsame_ok [M1] [c] k1 false (by simp) (by simp)) (by rw [hc,h1.1,h1.2];simp)) ⟨rfl,rfl,rfl⟩ ?_
 rintro _ _ ⟨rfl,rfl⟩
 cbv
 refine okd hG (by kernel_rfl) ?_
 refine lp_le hG (s':=stM A B s t g i k w M1 M2 M3 M4 M5 M6 M7 M8 M9 M10 k1 k2 k3 k4 k5 k6 k7 k8 k9 k10 v1 v2 v3 v4 v5 v6 v7 v8 v9 v10 1) (by constructor<;>cbv<;>simp) ?_
 refine lp_one hG ?_
 cbv
 refine call hG [] (ofB_ok v2) ⟨rfl,rfl,rfl⟩ ?_
 rintro _ _ ⟨c,rfl,rfl,hc⟩
 cbv
 refine call hG [] (kbr (c:=true) (rsame_ok [M2] [c] k2 false (by simp) (by simp)) (by rw [hc,h2.1,h2.2];simp)) ⟨rfl,rfl,rfl⟩ ?_
 rintro _ _ ⟨rfl,rfl⟩
 cbv
 refine okd hG (by kernel_rfl) ?_
 refine lp_le hG (s':=stM A B s t g i k w M1 M2 M3 M4 M5 M6 M7 M8 M9 M10 k1 k2 k3 k4 k5 k6 k7 k8 k9 k10 v1 v2 v3 v4 v5 v6 v7 v8 v9 v10 2) (by constructor<;>cbv<;>simp) ?_
 refine lp_one hG ?_
 cbv
 refine call hG [] (ofB_ok v3) ⟨rfl,rfl,rfl⟩ ?_
 rintro _ _ ⟨c,rfl,rfl,hc⟩
 cbv
 refine call hG [] (kbr (c:=true) (rsame_ok [M3] [c] k3 false (by simp) (by simp)) (by rw [hc,h3.1,h3.2];simp)) ⟨rfl,rfl,rfl⟩ ?_
 rintro _ _ ⟨rfl,rfl⟩
 cbv
 refine okd hG (by kernel_rfl) ?_
 refine lp_le hG (s':=stM A B s t g i k w M1 M2 M3 M4 M5 M6 M7 M8 M9 M10 k1 k2 k3 k4 k5 k6 k7 k8 k9 k10 v1 v2 v3 v4 v5 v6 v7 v8 v9 v10 3) (by constructor<;>cbv<;>simp) ?_
 refine lp_one hG ?_
 cbv
 refine call hG [] (ofB_ok v4) ⟨rfl,rfl,rfl⟩ ?_
 rintro _ _ ⟨c,rfl,rfl,hc⟩
 cbv
 refine call hG [] (kbr (c:=true) (rsame_ok [M4] [c] k4 false (by simp) (by simp)) (by rw [hc,h4.1,h4.2];simp)) ⟨rfl,rfl,rfl⟩ ?_
 rintro _ _ ⟨rfl,rfl⟩
 cbv
 refine okd hG (by kernel_rfl) ?_
 refine lp_le hG (s':=stM A B s t g i k w M1 M2 M3 M4 M5 M6 M7 M8 M9 M10 k1 k2 k3 k4 k5 k6 k7 k8 k9 k10 v1 v2 v3 v4 v5 v6 v7 v8 v9 v10 4) (by constructor<;>cbv<;>simp) ?_
 refine lp_one hG ?_
 cbv
 refine call hG [] (ofB_ok v5) ⟨rfl,rfl,rfl⟩ ?_
 rintro _ _ ⟨c,rfl,rfl,hc⟩
 cbv
 refine call hG [] (kbr (c:=true) (rsame_ok [M5] [c] k5 false (by simp) (by simp)) (by rw [hc,h5.1,h5.2];simp)) ⟨rfl,rfl,rfl⟩ ?_
 rintro _ _ ⟨rfl,rfl⟩
 cbv
 refine okd hG (by kernel_rfl) ?_
 refine lp_le hG (s':=stM A B s t g i k w M1 M2 M3 M4 M5 M6 M7 M8 M9 M10 k1 k2 k3 k4 k5 k6 k7 k8 k9 k10 v1 v2 v3 v4 v5 v6 v7 v8 v9 v10 5) (by constructor<;>cbv<;>simp) ?_
 refine lp_one hG ?_
 cbv
 refine call hG [] (ofB_ok v6) ⟨rfl,rfl,rfl⟩ ?_
 rintro _ _ ⟨c,rfl,rfl,hc⟩
 cbv
 refine call hG [] (kbr (c:=true) (rsame_ok [M6] [c] k6 false (by simp) (by simp)) (by rw [hc,h6.1,h6.2];simp)) ⟨rfl,rfl,rfl⟩ ?_
 rintro _ _ ⟨rfl,rfl⟩
 cbv
 refine okd hG (by kernel_rfl) ?_
 refine lp_le hG (s':=stM A B s t g i k w M1 M2 M3 M4 M5 M6 M7 M8 M9 M10 k1 k2 k3 k4 k5 k6 k7 k8 k9 k10 v1 v2 v3 v4 v5 v6 v7 v8 v9 v10 6) (by constructor<;>cbv<;>simp) ?_
 refine lp_one hG ?_
 cbv
 refine call hG [] (ofB_ok v7) ⟨rfl,rfl,rfl⟩ ?_
 rintro _ _ ⟨c,rfl,rfl,hc⟩
 cbv
 refine call hG [] (kbr (c:=true) (rsame_ok [M7] [c] k7 false (by simp) (by simp)) (by rw [hc,h7.1,h7.2];simp)) ⟨rfl,rfl,rfl⟩ ?_
 rintro _ _ ⟨rfl,rfl⟩
 cbv
 refine okd hG (by kernel_rfl) ?_
 refine lp_le hG (s':=stM A B s t g i k w M1 M2 M3 M4 M5 M6 M7 M8 M9 M10 k1 k2 k3 k4 k5 k6 k7 k8 k9 k10 v1 v2 v3 v4 v5 v6 v7 v8 v9 v10 7) (by constructor<;>cbv<;>simp) ?_
 refine lp_one hG ?_
 cbv
 refine call hG [] (ofB_ok v8) ⟨rfl,rfl,rfl⟩ ?_
 rintro _ _ ⟨c,rfl,rfl,hc⟩
 cbv
 refine call hG [] (kbr (c:=true) (rsame_ok [M8] [c] k8 false (by simp) (by simp)) (by rw [hc,h8.1,h8.2];simp)) ⟨rfl,rfl,rfl⟩ ?_
 rintro _ _ ⟨rfl,rfl⟩
 cbv
 refine okd hG (by kernel_rfl) ?_
 refine lp_le hG (s':=stM A B s t g i k w M1 M2 M3 M4 M5 M6 M7 M8 M9 M10 k1 k2 k3 k4 k5 k6 k7 k8 k9 k10 v1 v2 v3 v4 v5 v6 v7 v8 v9 v10 8) (by constructor<;>cbv<;>simp) ?_
 refine lp_one hG ?_
 cbv
 refine call hG [] (ofB_ok v9) ⟨rfl,rfl,rfl⟩ ?_
 rintro _ _ ⟨c,rfl,rfl,hc⟩
 cbv
 refine call hG [] (kbr (c:=true) (rsame_ok [M9] [c] k9 false (by simp) (by simp)) (by rw [hc,h9.1,h9.2];simp)) ⟨rfl,rfl,rfl⟩ ?_
 rintro _ _ ⟨rfl,rfl⟩
 cbv
 refine okd hG (by kernel_rfl) ?_
 refine lp_le hG (s':=stM A B s t g i k w M1 M2 M3 M4 M5 M6 M7 M8 M9 M10 k1 k2 k3 k4 k5 k6 k7 k8 k9 k10 v1 v2 v3 v4 v5 v6 v7 v8 v9 v10 9) (by constructor<;>cbv<;>simp) ?_
 refine lp_one hG ?_
 cbv
 refine call hG [] (ofB_ok v10) ⟨rfl,rfl,rfl⟩ ?_
 rintro _ _ ⟨c,rfl,rfl,hc⟩
 cbv
 refine call hG [] (kbr (c:=true) (rsame_ok [M10] [c] k10 false (by simp) (by simp)) (by rw [hc,h10.1,h10.2];simp)) ⟨rfl,rfl,rfl⟩ ?_
 rintro _ _ ⟨rfl,rfl⟩
 cbv
 refine okd hG (by kernel_rfl) ?_
 refine lp_le hG (s':=stM A B s t g i k w M1 M2 M3 M4 M5 M6 M7 M8 M9 M10 k1 k2 k3 k4 k5 k6 k7 k8 k9 k10 v1 v2 v3 v4 v5 v6 v7 v8 v9 v10 10) (by constructor<;>cbv<;>simp) ?_
 refine lp_one hG ?_
 cbv
 exact hK _ (by constructor<;>cbv<;>simp)
theorem int_cmp {B':AH} {d:Nat→Prop} {a b:List Bool} {A B:List Int} {s t g:Bool} {i k w:Int} (P:Ik a b A B s t g i k w) (q:SV→List SX.Obj→Prop) (hq:∀ x,x=true→q (.b x) []):SWs CX TB B' ⟨d,fun _=>none⟩ (dropC 12 IR.fi7.code) (stI A B s t g i k w) (post [.tmp 12] q):=by
 have la:=P.lA.1
 have lb:=P.lB.1
 have ka:A.length<2^15:=by have:=P.lA.2.1;omega
 have kb:B.length<2^15:=by have:=P.lB.2.1;omega
 have ba:=P.bA
 have bb:=P.bB
 obtain ⟨G,hG⟩:∃ G,G=std CX TB B' ⟨d,fun _=>none⟩:=⟨_,rfl⟩
 have fin:∀ s',Le s' (stI A B s t g i k w)→nk (fun s'=>SWs CX TB B' ⟨d,fun _=>none⟩ (dropC 13 IR.fi7.code) s' (post [.tmp 12] q)) (post [.tmp 12] q) .normal s':=fun s' h=>sws_le h (int_end P q hq)
 refine sws_seq2 ?_
 refine sws_seq hG fun R hR=>?_
 cbv
 refine call hG [] (vlt_ok A B s t la lb ba bb) ⟨rfl,rfl,rfl⟩ ?_
 rintro _ _ ⟨M1,k1,rfl,rfl,hM1,hk1⟩
 cbv
 have e1:M1=ofB (G.cmp .lss i k):=by rw [hM1,P.eA,P.eB,lt_I P.T,P.ei,P.ek,P.eg,hG];rfl
 refine call hG [] (vle_ok A B s t la lb ba bb) ⟨rfl,rfl,rfl⟩ ?_
 rintro _ _ ⟨M2,k2,rfl,rfl,hM2,hk2⟩
 cbv
 have e2:M2=ofB (G.cmp .leq i k):=by rw [hM2,P.eA,P.eB,le_I P.T,P.ei,P.ek,P.eg,hG];rfl
 refine call hG [] (vgt_ok A B s t la lb ba bb) ⟨rfl,rfl,rfl⟩ ?_
 rintro _ _ ⟨M3,k3,rfl,rfl,hM3,hk3⟩
 cbv
 have e3:M3=ofB (G.cmp .gtr i k):=by rw [hM3,P.eA,P.eB,gt_I P.T,P.ei,P.ek,P.eg,hG];rfl
 refine call hG [] (vge_ok A B s t la lb ba bb) ⟨rfl,rfl,rfl⟩ ?_
 rintro _ _ ⟨M4,k4,rfl,rfl,hM4,hk4⟩
 cbv
 have e4:M4=ofB (G.cmp .geq i k):=by rw [hM4,P.eA,P.eB,ge_I P.T,P.ei,P.ek,P.eg,hG];rfl
 refine call hG [] (veq_ok A B s t la lb ba bb) ⟨rfl,rfl,rfl⟩ ?_
 rintro _ _ ⟨M5,k5,rfl,rfl,hM5,hk5⟩
 cbv
 have e5:M5=ofB (G.cmp .eql i k):=by rw [hM5,P.eA,P.eB,eq_I P.T,P.ei,P.ek,P.eg,hG];rfl
 refine call hG [] (vne_ok A B s t la lb ba bb) ⟨rfl,rfl,rfl⟩ ?_
 rintro _ _ ⟨M6,k6,rfl,rfl,hM6,hk6⟩
 cbv
 have e6:M6=ofB (G.cmp .neq i k):=by rw [hM6,P.eA,P.eB,ne_I P.T,P.ei,P.ek,P.eg,hG];rfl
 refine call hG [] (vcaseEq_ok A B s t la lb ba bb) ⟨rfl,rfl,rfl⟩ ?_
 rintro _ _ ⟨M7,k7,rfl,rfl,hM7,hk7⟩
 cbv
 have e7:M7=ofB (G.cmp .eql i k):=by rw [hM7,P.eA,P.eB,caseEq_I P.T,P.ei,P.ek,P.eg,hG];rfl
 have tA:fld bOr (nB A)=ofB (G.cmp .neq i 0):=by rw [P.eA,truth_I P.T.a1 P.T.a3 g,P.ei,hG];rfl
 have tB:fld bOr (nB B)=ofB (G.cmp .neq k 0):=by rw [P.eB,truth_I P.T.b1 P.T.b3 g,P.ek,hG];rfl
 have tE:bNot (ofB (G.cmp .neq i 0))=ofB (G.cmp .eql i 0):=by { rw [hG];show bNot (ofB (!(i == 0)))=ofB (i == 0);cases (i == 0)<;>rfl }
 refine call hG [] (land_ok A B s t ka kb ba bb) ⟨rfl,rfl,rfl⟩ ?_
 rintro _ _ ⟨M8,k8,rfl,rfl,hM8,hk8⟩
 cbv
 refine SX.ite hG (fun c1=>?_) (fun c1=>?_)
 ·have c1:G.cmp .neq i 0=true:=c1
  refine call hG [] (lor_ok A B s t ka kb ba bb) ⟨rfl,rfl,rfl⟩ ?_
  rintro _ _ ⟨M9,k9,rfl,rfl,hM9,hk9⟩
  cbv
  refine ite_t hG c1 ?_
  refine call hG [] (lnot_ok A s ka ba) ⟨rfl,rfl,rfl⟩ ?_
  rintro _ _ ⟨M10,k10,rfl,rfl,hM10,hk10⟩
  cbv
  refine okd hG (by kernel_rfl) ?_
  exact hR _ (sws_le (s':=stM A B s t g i k w M1 M2 M3 M4 M5 M6 M7 M8 M9 M10 k1 k2 k3 k4 k5 k6 k7 k8 k9 k10 (G.cmp .lss i k) (G.cmp .leq i k) (G.cmp .gtr i k) (G.cmp .geq i k) (G.cmp .eql i k) (G.cmp .neq i k) (G.cmp .eql i k) (G.cmp .neq k 0) true (G.cmp .eql i 0) 0) (by constructor<;>cbv<;>simp) (int_r10 M1 M2 M3 M4 M5 M6 M7 M8 M9 M10 k1 k2 k3 k4 k5 k6 k7 k8 k9 k10 (G.cmp .lss i k) (G.cmp .leq i k) (G.cmp .gtr i k) (G.cmp .geq i k) (G.cmp .eql i k) (G.cmp .neq i k) (G.cmp .eql i k) (G.cmp .neq k 0) true (G.cmp .eql i 0) ⟨hk1,e1⟩ ⟨hk2,e2⟩ ⟨hk3,e3⟩ ⟨hk4,e4⟩ ⟨hk5,e5⟩ ⟨hk6,e6⟩ ⟨hk7,e7⟩ ⟨hk8,by rw [hM8,tA,tB];rw [c1];cases G.cmp .neq k 0<;>rfl⟩ ⟨hk9,by rw [hM9,tA,tB];rw [c1];cases G.cmp .neq k 0<;>rfl⟩ ⟨hk10,by rw [hM10,tA,tE]⟩ _ fin))
 ·have c1:G.cmp .neq i 0=false:=c1
  refine call hG [] (lor_ok A B s t ka kb ba bb) ⟨rfl,rfl,rfl⟩ ?_
  rintro _ _ ⟨M9,k9,rfl,rfl,hM9,hk9⟩
  cbv
  refine ite_f hG c1 ?_
  refine call hG [] (lnot_ok A s ka ba) ⟨rfl,rfl,rfl⟩ ?_
  rintro _ _ ⟨M10,k10,rfl,rfl,hM10,hk10⟩
  cbv
  refine okd hG (by kernel_rfl) ?_
  exact hR _ (sws_le (s':=stM A B s t g i k w M1 M2 M3 M4 M5 M6 M7 M8 M9 M10 k1 k2 k3 k4 k5 k6 k7 k8 k9 k10 (G.cmp .lss i k) (G.cmp .leq i k) (G.cmp .gtr i k) (G.cmp .geq i k) (G.cmp .eql i k) (G.cmp .neq i k) (G.cmp .eql i k) false (G.cmp .neq k 0) (G.cmp .eql i 0) 0) (by constructor<;>cbv<;>simp) (int_r10 M1 M2 M3 M4 M5 M6 M7 M8 M9 M10 k1 k2 k3 k4 k5 k6 k7 k8 k9 k10 (G.cmp .lss i k) (G.cmp .leq i k) (G.cmp .gtr i k) (G.cmp .geq i k) (G.cmp .eql i k) (G.cmp .neq i k) (G.cmp .eql i k) false (G.cmp .neq k 0) (G.cmp .eql i 0) ⟨hk1,e1⟩ ⟨hk2,e2⟩ ⟨hk3,e3⟩ ⟨hk4,e4⟩ ⟨hk5,e5⟩ ⟨hk6,e6⟩ ⟨hk7,e7⟩ ⟨hk8,by rw [hM8,tA,tB];rw [c1];cases G.cmp .neq k 0<;>rfl⟩ ⟨hk9,by rw [hM9,tA,tB];rw [c1];cases G.cmp .neq k 0<;>rfl⟩ ⟨hk10,by rw [hM10,tA,tE]⟩ _ fin))
end Go.Proofs.YtdgbdkfoeaollaaGreatDoor.V
