/- VecIntegers: arithmetic (printed by VInt.py). -/
import Derived.Test.YtdgbdkfoeaollaaGreatDoorVIntB
import Derived.Test.YtdgbdkfoeaollaaGreatDoorVG
set_option linter.unusedSimpArgs false
set_option linter.unusedVariables false
set_option cbv.maxSteps 4000000
set_option maxRecDepth 100000
set_option maxHeartbeats 8000000
namespace Go.Proofs.YtdgbdkfoeaollaaGreatDoor.V
open Go Go.AL Go.SX
def stA (A B:List Int) (s t g:Bool) (i k w:Int) (Z1 Z2 Z3 Z4 Z5 Z6 Z7:List Int) (k1 k2 k3 k4 k5 k6 k7:Bool) (v1 v2 v3 v4 v5 v6 v7:Int) (j:Nat):SX.St:=⟨((((((((((T.nil.set 4 (SV.b s)).set 13 (.o 1 0)).set 15 (.o 3 0)).set 17 (.b g)).set 20 (.i .i64 i)).set 22 (.i .i64 k)).set 24 (.i .i64 w)).set 160 (.os 11 0 7 3)).set 161 (.n .i64 7)).set 162 (.n .i64 j)),[.u A,.x [.s 0,.b s],.u B,.x [.s 2,.b t],.u Z1,.u Z2,.u Z3,.u Z4,.u Z5,.u Z6,.u Z7,.x [.s 4,.b k1,.i .i64 v1,.s 5,.b k2,.i .i64 v2,.s 6,.b k3,.i .i64 v3,.s 7,.b k4,.i .i64 v4,.s 8,.b k5,.i .i64 v5,.s 9,.b k6,.i .i64 v6,.s 10,.b k7,.i .i64 v7]]⟩
def pc10:IC:=match dropC 10 IR.fi7.code with | .seq (.seq _ b) _=>b | _=>.skip
theorem int_r7 {B':AH} {d:Nat→Prop} {a b:List Bool} {A B:List Int} {s t g:Bool} {i k w:Int} (P:Ik a b A B s t g i k w) (Z1 Z2 Z3 Z4 Z5 Z6 Z7:List Int) (k1 k2 k3 k4 k5 k6 k7:Bool) (v1 v2 v3 v4 v5 v6 v7:Int) (h1:k1=g∧I64 v1∧Z1=intL (X.ofI (wd a b) v1)) (h2:k2=g∧I64 v2∧Z2=intL (X.ofI (wd a b) v2)) (h3:k3=g∧I64 v3∧Z3=intL (X.ofI (wd a b) v3)) (h4:k4=g∧I64 v4∧Z4=intL (X.ofI (wd a b) v4)) (h5:k5=g∧I64 v5∧Z5=intL (X.ofI (wd a b) v5)) (h6:k6=g∧I64 v6∧Z6=intL (X.ofI (wd a b) v6)) (h7:k7=g∧I64 v7∧Z7=intL (X.ofI (wd a b) v7)) (K:Ctl→SX.St→Prop) (hK:∀ s',Le s' (stI A B s t g i k w)→K .normal s') :
  SWs CX TB B' ⟨d,fun _=>none⟩ pc10 (stA A B s t g i k w Z1 Z2 Z3 Z4 Z5 Z6 Z7 k1 k2 k3 k4 k5 k6 k7 v1 v2 v3 v4 v5 v6 v7 0) K:=by
 obtain ⟨G,hG⟩:∃ G,G=std CX TB B' ⟨d,fun _=>none⟩:=⟨_,rfl⟩
 refine sws_W hG ?_
 cbv
 refine lp_le hG (s':=stA A B s t g i k w Z1 Z2 Z3 Z4 Z5 Z6 Z7 k1 k2 k3 k4 k5 k6 k7 v1 v2 v3 v4 v5 v6 v7 0) (by constructor<;>cbv<;>simp) ?_
 refine lp_one hG ?_
 cbv
 refine call hG [] (kre (fromInt_ok v1 w g h1.2.1) P.okw) ⟨rfl,rfl,rfl⟩ ?_
 rintro _ _ ⟨Y,y,rfl,rfl,hY,hy⟩
 cbv
 rw [P.wN] at hY
 refine call hG [] (kbr (c:=true) (rsame_ok Z1 Y k1 y (by rw [h1.2.2];exact P.zl _) (by rw [hY];exact P.zl _)) (by rw [hY,hy,h1.1,h1.2.2];simp)) ⟨rfl,rfl,rfl⟩ ?_
 rintro _ _ ⟨rfl,rfl⟩
 cbv
 refine lp_le hG (s':=stA A B s t g i k w Z1 Z2 Z3 Z4 Z5 Z6 Z7 k1 k2 k3 k4 k5 k6 k7 v1 v2 v3 v4 v5 v6 v7 1) (by constructor<;>cbv<;>simp) ?_
 refine lp_one hG ?_
 cbv
 refine call hG [] (kre (fromInt_ok v2 w g h2.2.1) P.okw) ⟨rfl,rfl,rfl⟩ ?_
 rintro _ _ ⟨Y,y,rfl,rfl,hY,hy⟩
 cbv
 rw [P.wN] at hY
 refine call hG [] (kbr (c:=true) (rsame_ok Z2 Y k2 y (by rw [h2.2.2];exact P.zl _) (by rw [hY];exact P.zl _)) (by rw [hY,hy,h2.1,h2.2.2];simp)) ⟨rfl,rfl,rfl⟩ ?_
 rintro _ _ ⟨rfl,rfl⟩
 cbv
 refine lp_le hG (s':=stA A B s t g i k w Z1 Z2 Z3 Z4 Z5 Z6 Z7 k1 k2 k3 k4 k5 k6 k7 v1 v2 v3 v4 v5 v6 v7 2) (by constructor<;>cbv<;>simp) ?_
 refine lp_one hG ?_
 cbv
 refine call hG [] (kre (fromInt_ok v3 w g h3.2.1) P.okw) ⟨rfl,rfl,rfl⟩ ?_
 rintro _ _ ⟨Y,y,rfl,rfl,hY,hy⟩
 cbv
 rw [P.wN] at hY
 refine call hG [] (kbr (c:=true) (rsame_ok Z3 Y k3 y (by rw [h3.2.2];exact P.zl _) (by rw [hY];exact P.zl _)) (by rw [hY,hy,h3.1,h3.2.2];simp)) ⟨rfl,rfl,rfl⟩ ?_
 rintro _ _ ⟨rfl,rfl⟩
 cbv
 refine lp_le hG (s':=stA A B s t g i k w Z1 Z2 Z3 Z4 Z5 Z6 Z7 k1 k2 k3 k4 k5 k6 k7 v1 v2 v3 v4 v5 v6 v7 3) (by constructor<;>cbv<;>simp) ?_
 refine lp_one hG ?_
 cbv
 refine call hG [] (kre (fromInt_ok v4 w g h4.2.1) P.okw) ⟨rfl,rfl,rfl⟩ ?_
 rintro _ _ ⟨Y,y,rfl,rfl,hY,hy⟩
 cbv
 rw [P.wN] at hY
 refine call hG [] (kbr (c:=true) (rsame_ok Z4 Y k4 y (by rw [h4.2.2];exact P.zl _) (by rw [hY];exact P.zl _)) (by rw [hY,hy,h4.1,h4.2.2];simp)) ⟨rfl,rfl,rfl⟩ ?_
 rintro _ _ ⟨rfl,rfl⟩
 cbv
 refine lp_le hG (s':=stA A B s t g i k w Z1 Z2 Z3 Z4 Z5 Z6 Z7 k1 k2 k3 k4 k5 k6 k7 v1 v2 v3 v4 v5 v6 v7 4) (by constructor<;>cbv<;>simp) ?_
 refine lp_one hG ?_
 cbv
 refine call hG [] (kre (fromInt_ok v5 w g h5.2.1) P.okw) ⟨rfl,rfl,rfl⟩ ?_
 rintro _ _ ⟨Y,y,rfl,rfl,hY,hy⟩
 cbv
 rw [P.wN] at hY
 refine call hG [] (kbr (c:=true) (rsame_ok Z5 Y k5 y (by rw [h5.2.2];exact P.zl _) (by rw [hY];exact P.zl _)) (by rw [hY,hy,h5.1,h5.2.2];simp)) ⟨rfl,rfl,rfl⟩ ?_
 rintro _ _ ⟨rfl,rfl⟩
 cbv
 refine lp_le hG (s':=stA A B s t g i k w Z1 Z2 Z3 Z4 Z5 Z6 Z7 k1 k2 k3 k4 k5 k6 k7 v1 v2 v3 v4 v5 v6 v7 5) (by constructor<;>cbv<;>simp) ?_
 refine lp_one hG ?_
 cbv
 refine call hG [] (kre (fromInt_ok v6 w g h6.2.1) P.okw) ⟨rfl,rfl,rfl⟩ ?_
 rintro _ _ ⟨Y,y,rfl,rfl,hY,hy⟩
 cbv
 rw [P.wN] at hY
 refine call hG [] (kbr (c:=true) (rsame_ok Z6 Y k6 y (by rw [h6.2.2];exact P.zl _) (by rw [hY];exact P.zl _)) (by rw [hY,hy,h6.1,h6.2.2];simp)) ⟨rfl,rfl,rfl⟩ ?_
 rintro _ _ ⟨rfl,rfl⟩
 cbv
 refine lp_le hG (s':=stA A B s t g i k w Z1 Z2 Z3 Z4 Z5 Z6 Z7 k1 k2 k3 k4 k5 k6 k7 v1 v2 v3 v4 v5 v6 v7 6) (by constructor<;>cbv<;>simp) ?_
 refine lp_one hG ?_
 cbv
 refine call hG [] (kre (fromInt_ok v7 w g h7.2.1) P.okw) ⟨rfl,rfl,rfl⟩ ?_
 rintro _ _ ⟨Y,y,rfl,rfl,hY,hy⟩
 cbv
 rw [P.wN] at hY
 refine call hG [] (kbr (c:=true) (rsame_ok Z7 Y k7 y (by rw [h7.2.2];exact P.zl _) (by rw [hY];exact P.zl _)) (by rw [hY,hy,h7.1,h7.2.2];simp)) ⟨rfl,rfl,rfl⟩ ?_
 rintro _ _ ⟨rfl,rfl⟩
 cbv
 refine lp_le hG (s':=stA A B s t g i k w Z1 Z2 Z3 Z4 Z5 Z6 Z7 k1 k2 k3 k4 k5 k6 k7 v1 v2 v3 v4 v5 v6 v7 7) (by constructor<;>cbv<;>simp) ?_
 refine lp_one hG ?_
 cbv
 exact hK _ (by constructor<;>cbv<;>simp)
theorem int_div {B':AH} {d:Nat→Prop} {a b:List Bool} {A B:List Int} {s t g:Bool} {i k w:Int} (P:Ik a b A B s t g i k w) (q:SV→List SX.Obj→Prop) (hq:∀ x,x=true→q (.b x) []):SWs CX TB B' ⟨d,fun _=>none⟩ (dropC 11 IR.fi7.code) (stI A B s t g i k w) (post [.tmp 12] q):=by
 have la:=P.lA.1
 have lb:=P.lB.1
 have ka:A.length<2^15:=by have:=P.lA.2.1;omega
 have kb:B.length<2^15:=by have:=P.lB.2.1;omega
 have ba:=P.bA
 have bb:=P.bB
 obtain ⟨G,hG⟩:∃ G,G=std CX TB B' ⟨d,fun _=>none⟩:=⟨_,rfl⟩
 have fin:∀ s',Le s' (stI A B s t g i k w)→SWs CX TB B' ⟨d,fun _=>none⟩ (dropC 12 IR.fi7.code) s' (post [.tmp 12] q):=fun s' h=>sws_le h (int_cmp P q hq)
 have a1:=P.T.a1
 have b1:=P.T.b1
 have hla:=P.la
 have hlb:=P.lb
 refine sws_seq hG fun R hR=>?_
 cbv
 refine SX.ite hG (fun hk0=>?_) (fun hk0=>?_)
 ·have hk0:G.cmp .neq k 0=true:=hk0
  have kn0:k≠0:=by rw [hG] at hk0;exact bne_iff_ne.1 hk0
  have ne0:G.ne0 k:=by rw [hG];exact kn0
  have iQ:I64 (G.ar .quo .i64 i k):=by rw [hG];exact i64_fw _
  have iM:I64 (G.ar .rem .i64 i k):=by
   rw [hG];show I64 (i.tmod k)
   have h1:=vv_small (g:=g) a1 hla
   rw [←P.ei] at h1
   have h2:=X.tmod_abs i k
   have h3:i.natAbs % k.natAbs≤i.natAbs:=Nat.mod_le _ _
   unfold I64
   rw [h2]
   split<;>omega
  have hkv:vv (s&&t) b≠0:=by rw [←P.eg,←P.ek];exact kn0
  refine ⟨ne0,?_⟩
  refine call hG [] (kre (fromInt_ok (G.ar .quo .i64 i k) w g iQ) P.okw) ⟨rfl,rfl,rfl⟩ ?_
  rintro _ _ ⟨Q,qs,rfl,rfl,hQ,hqs⟩
  cbv
  refine ⟨ne0,?_⟩
  refine call hG [] (kre (fromInt_ok (G.ar .rem .i64 i k) w g iM) P.okw) ⟨rfl,rfl,rfl⟩ ?_
  rintro _ _ ⟨M,ms,rfl,rfl,hM,hms⟩
  cbv
  rw [P.wN] at hQ hM
  have eQ:Q=divL A s B t:=by rw [hQ,P.eA,P.eB,div_I P.T hkv,P.ei,P.ek,P.eg,hG];rfl
  have eM:M=modL A s B t:=by rw [hM,P.eA,P.eB,mod_I P.T hkv,P.ei,P.ek,P.eg,hG];rfl
  refine call hG [] (vdiv_ok A B s t la lb ba bb) ⟨rfl,rfl,rfl⟩ ?_
  rintro _ _ ⟨Z,z,rfl,rfl,hZ,hz⟩
  cbv
  refine call hG [] (kbr (c:=true) (rsame_ok Z Q z qs (by rw [hZ,←eQ,hQ];exact P.zl _) (by rw [hQ];exact P.zl _)) (by rw [hZ,hz,P.bg,eQ,hqs];simp)) ⟨rfl,rfl,rfl⟩ ?_
  rintro _ _ ⟨rfl,rfl⟩
  cbv
  refine call hG [] (vmod_ok A B s t la lb ba bb) ⟨rfl,rfl,rfl⟩ ?_
  rintro _ _ ⟨Y,y,rfl,rfl,hY,hy⟩
  cbv
  refine call hG [] (kbr (c:=true) (rsame_ok Y M y ms (by rw [hY,←eM,hM];exact P.zl _) (by rw [hM];exact P.zl _)) (by rw [hY,hy,P.bg,eM,hms];simp)) ⟨rfl,rfl,rfl⟩ ?_
  rintro _ _ ⟨rfl,rfl⟩
  cbv
  refine okd hG (by kernel_rfl) ?_
  exact hR _ (fin _ (by constructor<;>cbv<;>simp))
 ·have hk0:G.cmp .neq k 0=false:=hk0
  have k0:k=0:=by { rw [hG] at hk0;have h:(!(k == 0))=false:=hk0;simpa using h }
  have hkv:vv (s&&t) b=0:=by rw [←P.eg,←P.ek];exact k0
  have dl:∀ L:List Int,L=List.replicate (wd a b) 2→L.length<2^15:=fun L h=>by rw [h,List.length_replicate];have:=P.wl;omega
  have oz:∀ (x:List Bool) (gg:Bool),dvO x (X.ofI (wd a b) k) gg=false:=fun x gg=>by unfold dvO;rw [dmE_I P.rk];exact decide_eq_false (by simp [k0])
  have eD:divL A s B t=List.replicate (wd a b) 2:=by rw [P.eA,P.eB];exact ar_F P.T.toTwo (by rw [←P.eg,←P.ek];exact oz _ _)
  have eM:modL A s B t=List.replicate (wd a b) 2:=by rw [P.eA,P.eB];exact ar_F P.T.toTwo (by rw [←P.eg,←P.ek];exact oz _ _)
  have kn2:kn (nB (List.replicate (wd a b) 2))=false:=kn_2 P.w1 (by have:=P.wl;omega)
  refine call hG [] (vdiv_ok A B s t la lb ba bb) ⟨rfl,rfl,rfl⟩ ?_
  rintro _ _ ⟨Z,z,rfl,rfl,hZ,hz⟩
  cbv
  rw [eD] at hZ
  refine call hG [] (kbr (c:=false) (vknown_ok Z z (dl _ hZ)) (by rw [hZ];exact kn2)) ⟨rfl,rfl,rfl⟩ ?_
  rintro _ _ ⟨rfl,rfl⟩
  cbv
  refine call hG [] (vmod_ok A B s t la lb ba bb) ⟨rfl,rfl,rfl⟩ ?_
  rintro _ _ ⟨Y,y,rfl,rfl,hY,hy⟩
  cbv
  rw [eM] at hY
  refine call hG [] (kbr (c:=false) (vknown_ok Y y (dl _ hY)) (by rw [hY];exact kn2)) ⟨rfl,rfl,rfl⟩ ?_
  rintro _ _ ⟨rfl,rfl⟩
  cbv
  exact hR _ (fin _ (by constructor<;>cbv<;>simp))
theorem int_ar {B':AH} {d:Nat→Prop} {a b:List Bool} {A B:List Int} {s t g:Bool} {i k w:Int} (P:Ik a b A B s t g i k w) (q:SV→List SX.Obj→Prop) (hq:∀ x,x=true→q (.b x) []):SWs CX TB B' ⟨d,fun _=>none⟩ (dropC 10 IR.fi7.code) (stI A B s t g i k w) (post [.tmp 12] q):=by
 have la:=P.lA.1
 have lb:=P.lB.1
 have ka:A.length<2^15:=by have:=P.lA.2.1;omega
 have kb:B.length<2^15:=by have:=P.lB.2.1;omega
 have ba:=P.bA
 have bb:=P.bB
 obtain ⟨G,hG⟩:∃ G,G=std CX TB B' ⟨d,fun _=>none⟩:=⟨_,rfl⟩
 have fin:∀ s',Le s' (stI A B s t g i k w)→nk (fun s'=>SWs CX TB B' ⟨d,fun _=>none⟩ (dropC 11 IR.fi7.code) s' (post [.tmp 12] q)) (post [.tmp 12] q) .normal s':=fun s' h=>sws_le h (int_div P q hq)
 refine sws_seq2 ?_
 refine sws_seq hG fun R hR=>?_
 cbv
 refine call hG [] (vadd_ok A B s t la lb ba bb) ⟨rfl,rfl,rfl⟩ ?_
 rintro _ _ ⟨Z1,k1,rfl,rfl,hZ1,hk1⟩
 cbv
 have e1:k1=g∧I64 (G.ar .add .i64 i k)∧Z1=intL (X.ofI (wd a b) (G.ar .add .i64 i k)):=⟨by rw [hk1,P.bg],by rw [hG];exact i64_fw _,by rw [hZ1,P.eA,P.eB,add_I P.T,P.ei,P.ek,P.eg,hG];rfl⟩
 refine call hG [] (vsub_ok A B s t la lb ba bb) ⟨rfl,rfl,rfl⟩ ?_
 rintro _ _ ⟨Z2,k2,rfl,rfl,hZ2,hk2⟩
 cbv
 have e2:k2=g∧I64 (G.ar .sub .i64 i k)∧Z2=intL (X.ofI (wd a b) (G.ar .sub .i64 i k)):=⟨by rw [hk2,P.bg],by rw [hG];exact i64_fw _,by rw [hZ2,P.eA,P.eB,sub_I P.T,P.ei,P.ek,P.eg,hG];rfl⟩
 refine call hG [] (vmul_ok A B s t la lb ba bb) ⟨rfl,rfl,rfl⟩ ?_
 rintro _ _ ⟨Z3,k3,rfl,rfl,hZ3,hk3⟩
 cbv
 have e3:k3=g∧I64 (G.ar .mul .i64 i k)∧Z3=intL (X.ofI (wd a b) (G.ar .mul .i64 i k)):=⟨by rw [hk3,P.bg],by rw [hG];exact i64_fw _,by rw [hZ3,P.eA,P.eB,mul_I P.T,P.ei,P.ek,P.eg,hG];rfl⟩
 refine call hG [] (vAnd_ok A B s t la lb ba bb) ⟨rfl,rfl,rfl⟩ ?_
 rintro _ _ ⟨Z4,k4,rfl,rfl,hZ4,hk4⟩
 cbv
 have e4:k4=g∧I64 (G.ar .and .i64 i k)∧Z4=intL (X.ofI (wd a b) (G.ar .and .i64 i k)):=⟨by rw [hk4,P.bg],by rw [hG];exact i64_wrap _,by rw [hZ4,P.eA,P.eB,and_I P.T,P.ei,P.ek,P.eg,hG];rfl⟩
 refine call hG [] (vOr_ok A B s t la lb ba bb) ⟨rfl,rfl,rfl⟩ ?_
 rintro _ _ ⟨Z5,k5,rfl,rfl,hZ5,hk5⟩
 cbv
 have e5:k5=g∧I64 (G.ar .or .i64 i k)∧Z5=intL (X.ofI (wd a b) (G.ar .or .i64 i k)):=⟨by rw [hk5,P.bg],by rw [hG];exact i64_wrap _,by rw [hZ5,P.eA,P.eB,or_I P.T,P.ei,P.ek,P.eg,hG];rfl⟩
 refine call hG [] (vXor_ok A B s t la lb ba bb) ⟨rfl,rfl,rfl⟩ ?_
 rintro _ _ ⟨Z6,k6,rfl,rfl,hZ6,hk6⟩
 cbv
 have e6:k6=g∧I64 (G.ar .xor .i64 i k)∧Z6=intL (X.ofI (wd a b) (G.ar .xor .i64 i k)):=⟨by rw [hk6,P.bg],by rw [hG];exact i64_wrap _,by rw [hZ6,P.eA,P.eB,xor_I P.T,P.ei,P.ek,P.eg,hG];rfl⟩
 refine call hG [] (vXnor_ok A B s t la lb ba bb) ⟨rfl,rfl,rfl⟩ ?_
 rintro _ _ ⟨Z7,k7,rfl,rfl,hZ7,hk7⟩
 cbv
 have e7:k7=g∧I64 (G.un .xor .i64 (G.ar .xor .i64 i k))∧Z7=intL (X.ofI (wd a b) (G.un .xor .i64 (G.ar .xor .i64 i k))):=⟨by rw [hk7,P.bg],by rw [hG];exact i64_wrap _,by rw [hZ7,P.eA,P.eB,xnor_I P.T,P.ei,P.ek,P.eg,hG];rfl⟩
 refine okd hG (by kernel_rfl) ?_
 exact hR _ (sws_le (s':=stA A B s t g i k w Z1 Z2 Z3 Z4 Z5 Z6 Z7 k1 k2 k3 k4 k5 k6 k7 (G.ar .add .i64 i k) (G.ar .sub .i64 i k) (G.ar .mul .i64 i k) (G.ar .and .i64 i k) (G.ar .or .i64 i k) (G.ar .xor .i64 i k) (G.un .xor .i64 (G.ar .xor .i64 i k)) 0) (by constructor<;>cbv<;>simp) (int_r7 P Z1 Z2 Z3 Z4 Z5 Z6 Z7 k1 k2 k3 k4 k5 k6 k7 (G.ar .add .i64 i k) (G.ar .sub .i64 i k) (G.ar .mul .i64 i k) (G.ar .and .i64 i k) (G.ar .or .i64 i k) (G.ar .xor .i64 i k) (G.un .xor .i64 (G.ar .xor .i64 i k)) e1 e2 e3 e4 e5 e6 e7 _ fin))
end Go.Proofs.YtdgbdkfoeaollaaGreatDoor.V
