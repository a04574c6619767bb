/- VecMatches: the law (printed by VMat.py). -/
import Derived.Test.YtdgbdkfoeaollaaGreatDoorVU
import Derived.Test.YtdgbdkfoeaollaaGreatDoorVZe
import Derived.Test.YtdgbdkfoeaollaaGreatDoorVW
import Derived.Test.YtdgbdkfoeaollaaGreatDoorALe
set_option linter.unusedSimpArgs false
set_option linter.unusedVariables false
set_option cbv.maxSteps 4000000
set_option maxRecDepth 100000
set_option maxHeartbeats 8000000
namespace Go.Proofs.YtdgbdkfoeaollaaGreatDoor.V
open Go Go.AL Go.SX
theorem bq {B:AH} {D:Bs} {G:Sg} (hG:G=std CX TB B D) {a b:Bool} (h:a=b) (hf:G.beq .eql a b=false):False:=by
 subst h
 rw [hG] at hf
 have h3:(a == a)=false:=hf
 simp at h3
def envT:T SV:=((((T.nil.set 2 (SV.o 0 0)).set 3 (.o 1 0)).set 5 (.o 5 0)).set 6 (.o 6 0))
def objT (l m:List Int) (s t:Bool):List SX.Obj:=[.x [.u l,.b s],.x [.u m,.b t],.dead,.u l,.u m,.x [.s 3,.b s],.x [.s 4,.b t]]
def stT1 (l m:List Int) (s t:Bool) (j:Int) (i:Nat):SX.St:=⟨(((envT.set 7 (.i .i64 j)).set 27 (.os 7 0 9 2)).set 28 (.n .i64 9)).set 29 (.n .i64 i),objT l m s t++[.x onesL]⟩
def stT2 (l m:List Int) (s t:Bool) (j:Int) (i:Nat):SX.St:=⟨(((envT.set 7 (.i .i64 j)).set 48 (.os 8 0 24 2)).set 49 (.n .i64 24)).set 50 (.n .i64 i),objT l m s t++[.dead,.x twosL]⟩
def stT0 (l m:List Int) (s t:Bool):SX.St:=⟨envT,objT l m s t⟩
theorem mat_end {B:AH} {d:Nat→Prop} (l m:List Int) (s t:Bool) (bl:Byt l) (bm:Byt m) (hl:l.length≤140) (hm:m.length≤140) (q:SV→List SX.Obj→Prop) (hq:∀ x,x=true→q (.b x) []):SWs CX TB B ⟨d,fun _=>none⟩ (dropC 4 IR.fi9.code) (stT0 l m s t) (post [.tmp 4] q):=by
 have la:l.length<2^14:=by omega
 have lb:m.length<2^14:=by omega
 have ka:l.length<2^15:=by omega
 have kb:m.length<2^15:=by omega
 have qa:l.length<2^20:=by omega
 have qb:m.length<2^20:=by omega
 obtain ⟨G,hG⟩:∃ G,G=std CX TB B ⟨d,fun _=>none⟩:=⟨_,rfl⟩
 refine sws_W hG ?_
 cbv
 refine call hG [] (vmatchZ_ok l m s t la lb bl bm) ⟨rfl,rfl,rfl⟩ ?_
 rintro _ _ ⟨z1,rfl,rfl,hz1⟩
 cbv
 refine call hG [] (rmatch_ok l m s t la lb bl bm false) ⟨rfl,rfl,rfl⟩ ?_
 rintro _ _ ⟨z2,rfl,rfl,hz2⟩
 cbv
 refine SX.ite hG (fun h1=>?_) (fun h1=>(bq hG (by rw [hz1,hz2,match_z bl bm]) h1).elim)
 refine call hG [] (vmatchX_ok l m s t la lb bl bm) ⟨rfl,rfl,rfl⟩ ?_
 rintro _ _ ⟨x1,rfl,rfl,hx1⟩
 cbv
 refine call hG [] (rmatch_ok l m s t la lb bl bm true) ⟨rfl,rfl,rfl⟩ ?_
 rintro _ _ ⟨x2,rfl,rfl,hx2⟩
 cbv
 refine SX.ite hG (fun h2=>?_) (fun h2=>(bq hG (by rw [hx1,hx2,match_x bl bm]) h2).elim)
 refine call hG [] (kbr (c:=true) (rsame_ok l l s s qa qa) (by simp)) ⟨rfl,rfl,rfl⟩ ?_
 rintro _ _ ⟨rfl,rfl⟩
 cbv
 refine call hG [] (kbr (c:=true) (rsame_ok m m t t qb qb) (by simp)) ⟨rfl,rfl,rfl⟩ ?_
 rintro _ _ ⟨rfl,rfl⟩
 cbv
 refine call hG [] (kbr (c:=true) awake_ok rfl) ⟨rfl,rfl,rfl⟩ ?_
 rintro _ _ ⟨rfl,rfl⟩
 cbv
 refine okd hG (by kernel_rfl) ?_
 exact hq _ rfl
theorem mat_loop {B:AH} {d:Nat→Prop} (l m:List Int) (s t:Bool) (bl:Byt l) (bm:Byt m) (hl:l.length≤140) (hm:m.length≤140) (q:SV→List SX.Obj→Prop) (hq:∀ x,x=true→q (.b x) []):SWs CX TB B ⟨d,fun _=>none⟩ (dropC 3 IR.fi9.code) (stT0 l m s t) (post [.tmp 4] q):=by
 have la:l.length<2^14:=by omega
 have lb:m.length<2^14:=by omega
 have ka:l.length<2^15:=by omega
 have kb:m.length<2^15:=by omega
 have qa:l.length<2^20:=by omega
 have qb:m.length<2^20:=by omega
 obtain ⟨G,hG⟩:∃ G,G=std CX TB B ⟨d,fun _=>none⟩:=⟨_,rfl⟩
 refine sws_seq hG fun R hR=>?_
 cbv
 refine lp hG (α:=Int) (fun p=>∃ n:Nat,p=(n:Int)∧n≤2) (fun p=>2-p.toNat) (fun s p=>s.put (some 7) (.i .i64 p)) 0 ⟨0,rfl,by omega⟩ (by constructor<;>cbv<;>simp) ?_
 rintro j ⟨n,hj,hn⟩
 cbv
 have hj:j=(n:Int):=hj
 refine SX.ite hG (fun h3=>?_) (fun h3=>?_)
 ·have h3:n<2:=by
   rw [hG,hj] at h3
   have h3:(n:Int)<2:=of_decide_eq_true h3
   omega
  refine call hG [] (ones_ok) ⟨rfl,rfl,rfl⟩ ?_
  rintro _ _ ⟨rfl,rfl⟩
  cbv
  refine lp_le hG (s':=stT1 l m s t j 0) (by constructor<;>cbv<;>simp) ?_
  refine lp_one hG ?_
  cbv
  refine call hG [] (vnot_ok l s ka bl) ⟨rfl,rfl,rfl⟩ ?_
  rintro _ _ ⟨Z,z,rfl,rfl,hZ,hz⟩
  cbv
  refine call hG [] (runary_ok (.ofNat 14) l s la bl) ⟨rfl,rfl,rfl⟩ ?_
  rintro _ _ ⟨Y,y,rfl,rfl,hY,hy⟩
  cbv
  have P:Sm Z z Y y:=by rw [hZ,hz,hY,hy];exact sm_not bl
  refine call hG [] (kbr (c:=true) (rsame_ok Z Y z y P.k.1 P.k.2) P.b) ⟨rfl,rfl,rfl⟩ ?_
  rintro _ _ ⟨rfl,rfl⟩
  cbv
  refine okd hG (by kernel_rfl) ?_
  refine call hG [9] (spoil1_ok Z z P.k.1) ⟨rfl,rfl,rfl⟩ ?_
  rintro _ _ ⟨rfl,rfl⟩
  cbv
  refine lp_le hG (s':=stT1 l m s t j 1) (by constructor<;>cbv<;>simp) ?_
  refine lp_one hG ?_
  cbv
  refine call hG [] (vneg_ok l s ka bl) ⟨rfl,rfl,rfl⟩ ?_
  rintro _ _ ⟨Z,z,rfl,rfl,hZ,hz⟩
  cbv
  refine call hG [] (runary_ok (.ofNat 12) l s la bl) ⟨rfl,rfl,rfl⟩ ?_
  rintro _ _ ⟨Y,y,rfl,rfl,hY,hy⟩
  cbv
  have P:Sm Z z Y y:=by rw [hZ,hz,hY,hy];exact sm_neg bl
  refine call hG [] (kbr (c:=true) (rsame_ok Z Y z y P.k.1 P.k.2) P.b) ⟨rfl,rfl,rfl⟩ ?_
  rintro _ _ ⟨rfl,rfl⟩
  cbv
  refine okd hG (by kernel_rfl) ?_
  refine call hG [9] (spoil1_ok Z z P.k.1) ⟨rfl,rfl,rfl⟩ ?_
  rintro _ _ ⟨rfl,rfl⟩
  cbv
  refine lp_le hG (s':=stT1 l m s t j 2) (by constructor<;>cbv<;>simp) ?_
  refine lp_one hG ?_
  cbv
  refine call hG [] (lnot_ok l s ka bl) ⟨rfl,rfl,rfl⟩ ?_
  rintro _ _ ⟨Z,z,rfl,rfl,hZ,hz⟩
  cbv
  refine call hG [] (runary_ok (.ofNat 13) l s la bl) ⟨rfl,rfl,rfl⟩ ?_
  rintro _ _ ⟨Y,y,rfl,rfl,hY,hy⟩
  cbv
  have P:Sm [Z] z Y y:=by rw [hZ,hz,hY,hy];exact sm_one _ _ rfl
  refine call hG [] (kbr (c:=true) (rsame_ok [Z] Y z y P.k.1 P.k.2) P.b) ⟨rfl,rfl,rfl⟩ ?_
  rintro _ _ ⟨rfl,rfl⟩
  cbv
  refine okd hG (by kernel_rfl) ?_
  refine call hG [9] (spoil1_ok [Z] z P.k.1) ⟨rfl,rfl,rfl⟩ ?_
  rintro _ _ ⟨rfl,rfl⟩
  cbv
  refine lp_le hG (s':=stT1 l m s t j 3) (by constructor<;>cbv<;>simp) ?_
  refine lp_one hG ?_
  cbv
  refine call hG [] (redAnd_ok l s ka bl) ⟨rfl,rfl,rfl⟩ ?_
  rintro _ _ ⟨Z,z,rfl,rfl,hZ,hz⟩
  cbv
  refine call hG [] (runary_ok (.ofNat 15) l s la bl) ⟨rfl,rfl,rfl⟩ ?_
  rintro _ _ ⟨Y,y,rfl,rfl,hY,hy⟩
  cbv
  have P:Sm [Z] z Y y:=by rw [hZ,hz,hY,hy];exact sm_one _ _ rfl
  refine call hG [] (kbr (c:=true) (rsame_ok [Z] Y z y P.k.1 P.k.2) P.b) ⟨rfl,rfl,rfl⟩ ?_
  rintro _ _ ⟨rfl,rfl⟩
  cbv
  refine okd hG (by kernel_rfl) ?_
  refine call hG [9] (spoil1_ok [Z] z P.k.1) ⟨rfl,rfl,rfl⟩ ?_
  rintro _ _ ⟨rfl,rfl⟩
  cbv
  refine lp_le hG (s':=stT1 l m s t j 4) (by constructor<;>cbv<;>simp) ?_
  refine lp_one hG ?_
  cbv
  refine call hG [] (redOr_ok l s ka bl) ⟨rfl,rfl,rfl⟩ ?_
  rintro _ _ ⟨Z,z,rfl,rfl,hZ,hz⟩
  cbv
  refine call hG [] (runary_ok (.ofNat 16) l s la bl) ⟨rfl,rfl,rfl⟩ ?_
  rintro _ _ ⟨Y,y,rfl,rfl,hY,hy⟩
  cbv
  have P:Sm [Z] z Y y:=by rw [hZ,hz,hY,hy];exact sm_one _ _ rfl
  refine call hG [] (kbr (c:=true) (rsame_ok [Z] Y z y P.k.1 P.k.2) P.b) ⟨rfl,rfl,rfl⟩ ?_
  rintro _ _ ⟨rfl,rfl⟩
  cbv
  refine okd hG (by kernel_rfl) ?_
  refine call hG [9] (spoil1_ok [Z] z P.k.1) ⟨rfl,rfl,rfl⟩ ?_
  rintro _ _ ⟨rfl,rfl⟩
  cbv
  refine lp_le hG (s':=stT1 l m s t j 5) (by constructor<;>cbv<;>simp) ?_
  refine lp_one hG ?_
  cbv
  refine call hG [] (redXor_ok l s ka bl) ⟨rfl,rfl,rfl⟩ ?_
  rintro _ _ ⟨Z,z,rfl,rfl,hZ,hz⟩
  cbv
  refine call hG [] (runary_ok (.ofNat 17) l s la bl) ⟨rfl,rfl,rfl⟩ ?_
  rintro _ _ ⟨Y,y,rfl,rfl,hY,hy⟩
  cbv
  have P:Sm [Z] z Y y:=by rw [hZ,hz,hY,hy];exact sm_one _ _ rfl
  refine call hG [] (kbr (c:=true) (rsame_ok [Z] Y z y P.k.1 P.k.2) P.b) ⟨rfl,rfl,rfl⟩ ?_
  rintro _ _ ⟨rfl,rfl⟩
  cbv
  refine okd hG (by kernel_rfl) ?_
  refine call hG [9] (spoil1_ok [Z] z P.k.1) ⟨rfl,rfl,rfl⟩ ?_
  rintro _ _ ⟨rfl,rfl⟩
  cbv
  refine lp_le hG (s':=stT1 l m s t j 6) (by constructor<;>cbv<;>simp) ?_
  refine lp_one hG ?_
  cbv
  refine call hG [] (redNand_ok l s ka bl) ⟨rfl,rfl,rfl⟩ ?_
  rintro _ _ ⟨Z,z,rfl,rfl,hZ,hz⟩
  cbv
  refine call hG [] (runary_ok (.ofNat 18) l s la bl) ⟨rfl,rfl,rfl⟩ ?_
  rintro _ _ ⟨Y,y,rfl,rfl,hY,hy⟩
  cbv
  have P:Sm [Z] z Y y:=by rw [hZ,hz,hY,hy];exact sm_one _ _ rfl
  refine call hG [] (kbr (c:=true) (rsame_ok [Z] Y z y P.k.1 P.k.2) P.b) ⟨rfl,rfl,rfl⟩ ?_
  rintro _ _ ⟨rfl,rfl⟩
  cbv
  refine okd hG (by kernel_rfl) ?_
  refine call hG [9] (spoil1_ok [Z] z P.k.1) ⟨rfl,rfl,rfl⟩ ?_
  rintro _ _ ⟨rfl,rfl⟩
  cbv
  refine lp_le hG (s':=stT1 l m s t j 7) (by constructor<;>cbv<;>simp) ?_
  refine lp_one hG ?_
  cbv
  refine call hG [] (redNor_ok l s ka bl) ⟨rfl,rfl,rfl⟩ ?_
  rintro _ _ ⟨Z,z,rfl,rfl,hZ,hz⟩
  cbv
  refine call hG [] (runary_ok (.ofNat 19) l s la bl) ⟨rfl,rfl,rfl⟩ ?_
  rintro _ _ ⟨Y,y,rfl,rfl,hY,hy⟩
  cbv
  have P:Sm [Z] z Y y:=by rw [hZ,hz,hY,hy];exact sm_one _ _ rfl
  refine call hG [] (kbr (c:=true) (rsame_ok [Z] Y z y P.k.1 P.k.2) P.b) ⟨rfl,rfl,rfl⟩ ?_
  rintro _ _ ⟨rfl,rfl⟩
  cbv
  refine okd hG (by kernel_rfl) ?_
  refine call hG [9] (spoil1_ok [Z] z P.k.1) ⟨rfl,rfl,rfl⟩ ?_
  rintro _ _ ⟨rfl,rfl⟩
  cbv
  refine lp_le hG (s':=stT1 l m s t j 8) (by constructor<;>cbv<;>simp) ?_
  refine lp_one hG ?_
  cbv
  refine call hG [] (redXnor_ok l s ka bl) ⟨rfl,rfl,rfl⟩ ?_
  rintro _ _ ⟨Z,z,rfl,rfl,hZ,hz⟩
  cbv
  refine call hG [] (runary_ok (.ofNat 20) l s la bl) ⟨rfl,rfl,rfl⟩ ?_
  rintro _ _ ⟨Y,y,rfl,rfl,hY,hy⟩
  cbv
  have P:Sm [Z] z Y y:=by rw [hZ,hz,hY,hy];exact sm_one _ _ rfl
  refine call hG [] (kbr (c:=true) (rsame_ok [Z] Y z y P.k.1 P.k.2) P.b) ⟨rfl,rfl,rfl⟩ ?_
  rintro _ _ ⟨rfl,rfl⟩
  cbv
  refine okd hG (by kernel_rfl) ?_
  refine call hG [9] (spoil1_ok [Z] z P.k.1) ⟨rfl,rfl,rfl⟩ ?_
  rintro _ _ ⟨rfl,rfl⟩
  cbv
  refine lp_le hG (s':=stT1 l m s t j 9) (by constructor<;>cbv<;>simp) ?_
  refine lp_one hG ?_
  cbv
  refine call hG [] (twos_ok) ⟨rfl,rfl,rfl⟩ ?_
  rintro _ _ ⟨rfl,rfl⟩
  cbv
  refine lp_le hG (s':=stT2 l m s t j 0) (by constructor<;>cbv<;>simp) ?_
  refine lp_one hG ?_
  cbv
  refine call hG [] (vAnd_ok l m s t la lb bl bm) ⟨rfl,rfl,rfl⟩ ?_
  rintro _ _ ⟨Z,z,rfl,rfl,hZ,hz⟩
  cbv
  refine call hG [] (rbin_pair (.ofNat 37) (.inl rfl) l m s t la lb bl bm) ⟨rfl,rfl,rfl⟩ ?_
  rintro _ _ ⟨Y,y,rfl,rfl,hY,hy⟩
  cbv
  have P:Sm Z z Y y:=by rw [hZ,hz,hY,hy];exact sm_bw bl bm rfl
  refine call hG [] (kbr (c:=true) (rsame_ok Z Y z y P.k.1 P.k.2) P.b) ⟨rfl,rfl,rfl⟩ ?_
  rintro _ _ ⟨rfl,rfl⟩
  cbv
  refine okd hG (by kernel_rfl) ?_
  refine call hG [10] (spoil1_ok Z z P.k.1) ⟨rfl,rfl,rfl⟩ ?_
  rintro _ _ ⟨rfl,rfl⟩
  cbv
  refine lp_le hG (s':=stT2 l m s t j 1) (by constructor<;>cbv<;>simp) ?_
  refine lp_one hG ?_
  cbv
  refine call hG [] (vOr_ok l m s t la lb bl bm) ⟨rfl,rfl,rfl⟩ ?_
  rintro _ _ ⟨Z,z,rfl,rfl,hZ,hz⟩
  cbv
  refine call hG [] (rbin_pair (.ofNat 38) (.inr (.inl rfl)) l m s t la lb bl bm) ⟨rfl,rfl,rfl⟩ ?_
  rintro _ _ ⟨Y,y,rfl,rfl,hY,hy⟩
  cbv
  have P:Sm Z z Y y:=by rw [hZ,hz,hY,hy];exact sm_bw bl bm rfl
  refine call hG [] (kbr (c:=true) (rsame_ok Z Y z y P.k.1 P.k.2) P.b) ⟨rfl,rfl,rfl⟩ ?_
  rintro _ _ ⟨rfl,rfl⟩
  cbv
  refine okd hG (by kernel_rfl) ?_
  refine call hG [10] (spoil1_ok Z z P.k.1) ⟨rfl,rfl,rfl⟩ ?_
  rintro _ _ ⟨rfl,rfl⟩
  cbv
  refine lp_le hG (s':=stT2 l m s t j 2) (by constructor<;>cbv<;>simp) ?_
  refine lp_one hG ?_
  cbv
  refine call hG [] (vXor_ok l m s t la lb bl bm) ⟨rfl,rfl,rfl⟩ ?_
  rintro _ _ ⟨Z,z,rfl,rfl,hZ,hz⟩
  cbv
  refine call hG [] (rbin_pair (.ofNat 39) (.inr (.inr (.inl rfl))) l m s t la lb bl bm) ⟨rfl,rfl,rfl⟩ ?_
  rintro _ _ ⟨Y,y,rfl,rfl,hY,hy⟩
  cbv
  have P:Sm Z z Y y:=by rw [hZ,hz,hY,hy];exact sm_bw bl bm rfl
  refine call hG [] (kbr (c:=true) (rsame_ok Z Y z y P.k.1 P.k.2) P.b) ⟨rfl,rfl,rfl⟩ ?_
  rintro _ _ ⟨rfl,rfl⟩
  cbv
  refine okd hG (by kernel_rfl) ?_
  refine call hG [10] (spoil1_ok Z z P.k.1) ⟨rfl,rfl,rfl⟩ ?_
  rintro _ _ ⟨rfl,rfl⟩
  cbv
  refine lp_le hG (s':=stT2 l m s t j 3) (by constructor<;>cbv<;>simp) ?_
  refine lp_one hG ?_
  cbv
  refine call hG [] (vXnor_ok l m s t la lb bl bm) ⟨rfl,rfl,rfl⟩ ?_
  rintro _ _ ⟨Z,z,rfl,rfl,hZ,hz⟩
  cbv
  refine call hG [] (rbin_pair (.ofNat 40) (.inr (.inr (.inr rfl))) l m s t la lb bl bm) ⟨rfl,rfl,rfl⟩ ?_
  rintro _ _ ⟨Y,y,rfl,rfl,hY,hy⟩
  cbv
  have P:Sm Z z Y y:=by rw [hZ,hz,hY,hy];exact sm_bw bl bm rfl
  refine call hG [] (kbr (c:=true) (rsame_ok Z Y z y P.k.1 P.k.2) P.b) ⟨rfl,rfl,rfl⟩ ?_
  rintro _ _ ⟨rfl,rfl⟩
  cbv
  refine okd hG (by kernel_rfl) ?_
  refine call hG [10] (spoil1_ok Z z P.k.1) ⟨rfl,rfl,rfl⟩ ?_
  rintro _ _ ⟨rfl,rfl⟩
  cbv
  refine lp_le hG (s':=stT2 l m s t j 4) (by constructor<;>cbv<;>simp) ?_
  refine lp_one hG ?_
  cbv
  refine call hG [] (vadd_ok l m s t la lb bl bm) ⟨rfl,rfl,rfl⟩ ?_
  rintro _ _ ⟨Z,z,rfl,rfl,hZ,hz⟩
  cbv
  refine call hG [] (rbin_ar (.ofNat 21) (.inl rfl) l m s t la lb bl bm) ⟨rfl,rfl,rfl⟩ ?_
  rintro _ _ ⟨Y,y,rfl,rfl,hY,hy⟩
  cbv
  have P:Sm Z z Y y:=by rw [hZ,hz,hY,hy];exact sm_add bl bm
  refine call hG [] (kbr (c:=true) (rsame_ok Z Y z y P.k.1 P.k.2) P.b) ⟨rfl,rfl,rfl⟩ ?_
  rintro _ _ ⟨rfl,rfl⟩
  cbv
  refine okd hG (by kernel_rfl) ?_
  refine call hG [10] (spoil1_ok Z z P.k.1) ⟨rfl,rfl,rfl⟩ ?_
  rintro _ _ ⟨rfl,rfl⟩
  cbv
  refine lp_le hG (s':=stT2 l m s t j 5) (by constructor<;>cbv<;>simp) ?_
  refine lp_one hG ?_
  cbv
  refine call hG [] (vsub_ok l m s t la lb bl bm) ⟨rfl,rfl,rfl⟩ ?_
  rintro _ _ ⟨Z,z,rfl,rfl,hZ,hz⟩
  cbv
  refine call hG [] (rbin_ar (.ofNat 22) (.inr (.inl rfl)) l m s t la lb bl bm) ⟨rfl,rfl,rfl⟩ ?_
  rintro _ _ ⟨Y,y,rfl,rfl,hY,hy⟩
  cbv
  have P:Sm Z z Y y:=by rw [hZ,hz,hY,hy];exact sm_sub bl bm
  refine call hG [] (kbr (c:=true) (rsame_ok Z Y z y P.k.1 P.k.2) P.b) ⟨rfl,rfl,rfl⟩ ?_
  rintro _ _ ⟨rfl,rfl⟩
  cbv
  refine okd hG (by kernel_rfl) ?_
  refine call hG [10] (spoil1_ok Z z P.k.1) ⟨rfl,rfl,rfl⟩ ?_
  rintro _ _ ⟨rfl,rfl⟩
  cbv
  refine lp_le hG (s':=stT2 l m s t j 6) (by constructor<;>cbv<;>simp) ?_
  refine lp_one hG ?_
  cbv
  refine call hG [] (vmul_ok l m s t la lb bl bm) ⟨rfl,rfl,rfl⟩ ?_
  rintro _ _ ⟨Z,z,rfl,rfl,hZ,hz⟩
  cbv
  refine call hG [] (rbin_ar (.ofNat 23) (.inr (.inr (.inl rfl))) l m s t la lb bl bm) ⟨rfl,rfl,rfl⟩ ?_
  rintro _ _ ⟨Y,y,rfl,rfl,hY,hy⟩
  cbv
  have P:Sm Z z Y y:=by rw [hZ,hz,hY,hy];exact sm_mul bl bm
  refine call hG [] (kbr (c:=true) (rsame_ok Z Y z y P.k.1 P.k.2) P.b) ⟨rfl,rfl,rfl⟩ ?_
  rintro _ _ ⟨rfl,rfl⟩
  cbv
  refine okd hG (by kernel_rfl) ?_
  refine call hG [10] (spoil1_ok Z z P.k.1) ⟨rfl,rfl,rfl⟩ ?_
  rintro _ _ ⟨rfl,rfl⟩
  cbv
  refine lp_le hG (s':=stT2 l m s t j 7) (by constructor<;>cbv<;>simp) ?_
  refine lp_one hG ?_
  cbv
  refine call hG [] (vdiv_ok l m s t la lb bl bm) ⟨rfl,rfl,rfl⟩ ?_
  rintro _ _ ⟨Z,z,rfl,rfl,hZ,hz⟩
  cbv
  refine call hG [] (rbin_ar (.ofNat 24) (.inr (.inr (.inr (.inl rfl)))) l m s t la lb bl bm) ⟨rfl,rfl,rfl⟩ ?_
  rintro _ _ ⟨Y,y,rfl,rfl,hY,hy⟩
  cbv
  have P:Sm Z z Y y:=by rw [hZ,hz,hY,hy];exact sm_div bl bm
  refine call hG [] (kbr (c:=true) (rsame_ok Z Y z y P.k.1 P.k.2) P.b) ⟨rfl,rfl,rfl⟩ ?_
  rintro _ _ ⟨rfl,rfl⟩
  cbv
  refine okd hG (by kernel_rfl) ?_
  refine call hG [10] (spoil1_ok Z z P.k.1) ⟨rfl,rfl,rfl⟩ ?_
  rintro _ _ ⟨rfl,rfl⟩
  cbv
  refine lp_le hG (s':=stT2 l m s t j 8) (by constructor<;>cbv<;>simp) ?_
  refine lp_one hG ?_
  cbv
  refine call hG [] (vmod_ok l m s t la lb bl bm) ⟨rfl,rfl,rfl⟩ ?_
  rintro _ _ ⟨Z,z,rfl,rfl,hZ,hz⟩
  cbv
  refine call hG [] (rbin_ar (.ofNat 25) (.inr (.inr (.inr (.inr rfl)))) l m s t la lb bl bm) ⟨rfl,rfl,rfl⟩ ?_
  rintro _ _ ⟨Y,y,rfl,rfl,hY,hy⟩
  cbv
  have P:Sm Z z Y y:=by rw [hZ,hz,hY,hy];exact sm_mod bl bm
  refine call hG [] (kbr (c:=true) (rsame_ok Z Y z y P.k.1 P.k.2) P.b) ⟨rfl,rfl,rfl⟩ ?_
  rintro _ _ ⟨rfl,rfl⟩
  cbv
  refine okd hG (by kernel_rfl) ?_
  refine call hG [10] (spoil1_ok Z z P.k.1) ⟨rfl,rfl,rfl⟩ ?_
  rintro _ _ ⟨rfl,rfl⟩
  cbv
  refine lp_le hG (s':=stT2 l m s t j 9) (by constructor<;>cbv<;>simp) ?_
  refine lp_one hG ?_
  cbv
  refine call hG [] (vpow_ok l m s t la lb bl bm) ⟨rfl,rfl,rfl⟩ ?_
  rintro _ _ ⟨Z,z,rfl,rfl,hZ,hz⟩
  cbv
  refine call hG [] (rbin_pow (.ofNat 26) (rfl) l m s t la lb bl bm) ⟨rfl,rfl,rfl⟩ ?_
  rintro _ _ ⟨Y,y,rfl,rfl,hY,hy⟩
  cbv
  have P:Sm Z z Y y:=by rw [hZ,hz,hY,hy];exact sm_pow bl bm
  refine call hG [] (kbr (c:=true) (rsame_ok Z Y z y P.k.1 P.k.2) P.b) ⟨rfl,rfl,rfl⟩ ?_
  rintro _ _ ⟨rfl,rfl⟩
  cbv
  refine okd hG (by kernel_rfl) ?_
  refine call hG [10] (spoil1_ok Z z P.k.1) ⟨rfl,rfl,rfl⟩ ?_
  rintro _ _ ⟨rfl,rfl⟩
  cbv
  refine lp_le hG (s':=stT2 l m s t j 10) (by constructor<;>cbv<;>simp) ?_
  refine lp_one hG ?_
  cbv
  refine call hG [] (veq_ok l m s t la lb bl bm) ⟨rfl,rfl,rfl⟩ ?_
  rintro _ _ ⟨Z,z,rfl,rfl,hZ,hz⟩
  cbv
  refine call hG [] (rbin_cmp (.ofNat 27) (by decide) l m s t la lb bl bm) ⟨rfl,rfl,rfl⟩ ?_
  rintro _ _ ⟨Y,y,rfl,rfl,hY,hy⟩
  cbv
  have P:Sm [Z] z Y y:=by rw [hZ,hz,hY,hy];exact sm_one _ _ (cmp_eqv bl bm)
  refine call hG [] (kbr (c:=true) (rsame_ok [Z] Y z y P.k.1 P.k.2) P.b) ⟨rfl,rfl,rfl⟩ ?_
  rintro _ _ ⟨rfl,rfl⟩
  cbv
  refine okd hG (by kernel_rfl) ?_
  refine call hG [10] (spoil1_ok [Z] z P.k.1) ⟨rfl,rfl,rfl⟩ ?_
  rintro _ _ ⟨rfl,rfl⟩
  cbv
  refine lp_le hG (s':=stT2 l m s t j 11) (by constructor<;>cbv<;>simp) ?_
  refine lp_one hG ?_
  cbv
  refine call hG [] (vne_ok l m s t la lb bl bm) ⟨rfl,rfl,rfl⟩ ?_
  rintro _ _ ⟨Z,z,rfl,rfl,hZ,hz⟩
  cbv
  refine call hG [] (rbin_cmp (.ofNat 28) (by decide) l m s t la lb bl bm) ⟨rfl,rfl,rfl⟩ ?_
  rintro _ _ ⟨Y,y,rfl,rfl,hY,hy⟩
  cbv
  have P:Sm [Z] z Y y:=by rw [hZ,hz,hY,hy];exact sm_one _ _ (cmp_ne bl bm)
  refine call hG [] (kbr (c:=true) (rsame_ok [Z] Y z y P.k.1 P.k.2) P.b) ⟨rfl,rfl,rfl⟩ ?_
  rintro _ _ ⟨rfl,rfl⟩
  cbv
  refine okd hG (by kernel_rfl) ?_
  refine call hG [10] (spoil1_ok [Z] z P.k.1) ⟨rfl,rfl,rfl⟩ ?_
  rintro _ _ ⟨rfl,rfl⟩
  cbv
  refine lp_le hG (s':=stT2 l m s t j 12) (by constructor<;>cbv<;>simp) ?_
  refine lp_one hG ?_
  cbv
  refine call hG [] (vlt_ok l m s t la lb bl bm) ⟨rfl,rfl,rfl⟩ ?_
  rintro _ _ ⟨Z,z,rfl,rfl,hZ,hz⟩
  cbv
  refine call hG [] (rbin_cmp (.ofNat 31) (by decide) l m s t la lb bl bm) ⟨rfl,rfl,rfl⟩ ?_
  rintro _ _ ⟨Y,y,rfl,rfl,hY,hy⟩
  cbv
  have P:Sm [Z] z Y y:=by rw [hZ,hz,hY,hy];exact sm_one _ _ cmp_lt
  refine call hG [] (kbr (c:=true) (rsame_ok [Z] Y z y P.k.1 P.k.2) P.b) ⟨rfl,rfl,rfl⟩ ?_
  rintro _ _ ⟨rfl,rfl⟩
  cbv
  refine okd hG (by kernel_rfl) ?_
  refine call hG [10] (spoil1_ok [Z] z P.k.1) ⟨rfl,rfl,rfl⟩ ?_
  rintro _ _ ⟨rfl,rfl⟩
  cbv
  refine lp_le hG (s':=stT2 l m s t j 13) (by constructor<;>cbv<;>simp) ?_
  refine lp_one hG ?_
  cbv
  refine call hG [] (vle_ok l m s t la lb bl bm) ⟨rfl,rfl,rfl⟩ ?_
  rintro _ _ ⟨Z,z,rfl,rfl,hZ,hz⟩
  cbv
  refine call hG [] (rbin_cmp (.ofNat 32) (by decide) l m s t la lb bl bm) ⟨rfl,rfl,rfl⟩ ?_
  rintro _ _ ⟨Y,y,rfl,rfl,hY,hy⟩
  cbv
  have P:Sm [Z] z Y y:=by rw [hZ,hz,hY,hy];exact sm_one _ _ cmp_le
  refine call hG [] (kbr (c:=true) (rsame_ok [Z] Y z y P.k.1 P.k.2) P.b) ⟨rfl,rfl,rfl⟩ ?_
  rintro _ _ ⟨rfl,rfl⟩
  cbv
  refine okd hG (by kernel_rfl) ?_
  refine call hG [10] (spoil1_ok [Z] z P.k.1) ⟨rfl,rfl,rfl⟩ ?_
  rintro _ _ ⟨rfl,rfl⟩
  cbv
  refine lp_le hG (s':=stT2 l m s t j 14) (by constructor<;>cbv<;>simp) ?_
  refine lp_one hG ?_
  cbv
  refine call hG [] (vgt_ok l m s t la lb bl bm) ⟨rfl,rfl,rfl⟩ ?_
  rintro _ _ ⟨Z,z,rfl,rfl,hZ,hz⟩
  cbv
  refine call hG [] (rbin_cmp (.ofNat 33) (by decide) l m s t la lb bl bm) ⟨rfl,rfl,rfl⟩ ?_
  rintro _ _ ⟨Y,y,rfl,rfl,hY,hy⟩
  cbv
  have P:Sm [Z] z Y y:=by rw [hZ,hz,hY,hy];exact sm_one _ _ cmp_gt
  refine call hG [] (kbr (c:=true) (rsame_ok [Z] Y z y P.k.1 P.k.2) P.b) ⟨rfl,rfl,rfl⟩ ?_
  rintro _ _ ⟨rfl,rfl⟩
  cbv
  refine okd hG (by kernel_rfl) ?_
  refine call hG [10] (spoil1_ok [Z] z P.k.1) ⟨rfl,rfl,rfl⟩ ?_
  rintro _ _ ⟨rfl,rfl⟩
  cbv
  refine lp_le hG (s':=stT2 l m s t j 15) (by constructor<;>cbv<;>simp) ?_
  refine lp_one hG ?_
  cbv
  refine call hG [] (vge_ok l m s t la lb bl bm) ⟨rfl,rfl,rfl⟩ ?_
  rintro _ _ ⟨Z,z,rfl,rfl,hZ,hz⟩
  cbv
  refine call hG [] (rbin_cmp (.ofNat 34) (by decide) l m s t la lb bl bm) ⟨rfl,rfl,rfl⟩ ?_
  rintro _ _ ⟨Y,y,rfl,rfl,hY,hy⟩
  cbv
  have P:Sm [Z] z Y y:=by rw [hZ,hz,hY,hy];exact sm_one _ _ cmp_ge
  refine call hG [] (kbr (c:=true) (rsame_ok [Z] Y z y P.k.1 P.k.2) P.b) ⟨rfl,rfl,rfl⟩ ?_
  rintro _ _ ⟨rfl,rfl⟩
  cbv
  refine okd hG (by kernel_rfl) ?_
  refine call hG [10] (spoil1_ok [Z] z P.k.1) ⟨rfl,rfl,rfl⟩ ?_
  rintro _ _ ⟨rfl,rfl⟩
  cbv
  refine lp_le hG (s':=stT2 l m s t j 16) (by constructor<;>cbv<;>simp) ?_
  refine lp_one hG ?_
  cbv
  refine call hG [] (land_ok l m s t ka kb bl bm) ⟨rfl,rfl,rfl⟩ ?_
  rintro _ _ ⟨Z,z,rfl,rfl,hZ,hz⟩
  cbv
  refine call hG [] (rbin_land (.ofNat 35) (rfl) l m s t la lb bl bm) ⟨rfl,rfl,rfl⟩ ?_
  rintro _ _ ⟨Y,y,rfl,rfl,hY,hy⟩
  cbv
  have P:Sm [Z] z Y y:=by rw [hZ,hz,hY,hy];exact sm_one _ _ rfl
  refine call hG [] (kbr (c:=true) (rsame_ok [Z] Y z y P.k.1 P.k.2) P.b) ⟨rfl,rfl,rfl⟩ ?_
  rintro _ _ ⟨rfl,rfl⟩
  cbv
  refine okd hG (by kernel_rfl) ?_
  refine call hG [10] (spoil1_ok [Z] z P.k.1) ⟨rfl,rfl,rfl⟩ ?_
  rintro _ _ ⟨rfl,rfl⟩
  cbv
  refine lp_le hG (s':=stT2 l m s t j 17) (by constructor<;>cbv<;>simp) ?_
  refine lp_one hG ?_
  cbv
  refine call hG [] (lor_ok l m s t ka kb bl bm) ⟨rfl,rfl,rfl⟩ ?_
  rintro _ _ ⟨Z,z,rfl,rfl,hZ,hz⟩
  cbv
  refine call hG [] (rbin_lor (.ofNat 36) (rfl) l m s t la lb bl bm) ⟨rfl,rfl,rfl⟩ ?_
  rintro _ _ ⟨Y,y,rfl,rfl,hY,hy⟩
  cbv
  have P:Sm [Z] z Y y:=by rw [hZ,hz,hY,hy];exact sm_one _ _ rfl
  refine call hG [] (kbr (c:=true) (rsame_ok [Z] Y z y P.k.1 P.k.2) P.b) ⟨rfl,rfl,rfl⟩ ?_
  rintro _ _ ⟨rfl,rfl⟩
  cbv
  refine okd hG (by kernel_rfl) ?_
  refine call hG [10] (spoil1_ok [Z] z P.k.1) ⟨rfl,rfl,rfl⟩ ?_
  rintro _ _ ⟨rfl,rfl⟩
  cbv
  refine lp_le hG (s':=stT2 l m s t j 18) (by constructor<;>cbv<;>simp) ?_
  refine lp_one hG ?_
  cbv
  refine call hG [] (vshl_ok l m s t la lb bl bm) ⟨rfl,rfl,rfl⟩ ?_
  rintro _ _ ⟨Z,z,rfl,rfl,hZ,hz⟩
  cbv
  refine call hG [] (rbin_shift (.ofNat 41) (.inl rfl) l m s t la lb bl bm) ⟨rfl,rfl,rfl⟩ ?_
  rintro _ _ ⟨Y,y,rfl,rfl,hY,hy⟩
  cbv
  have P:Sm Z z Y y:=by rw [hZ,hz,hY,hy];exact sm_sh bl bm rfl rfl
  refine call hG [] (kbr (c:=true) (rsame_ok Z Y z y P.k.1 P.k.2) P.b) ⟨rfl,rfl,rfl⟩ ?_
  rintro _ _ ⟨rfl,rfl⟩
  cbv
  refine okd hG (by kernel_rfl) ?_
  refine call hG [10] (spoil1_ok Z z P.k.1) ⟨rfl,rfl,rfl⟩ ?_
  rintro _ _ ⟨rfl,rfl⟩
  cbv
  refine lp_le hG (s':=stT2 l m s t j 19) (by constructor<;>cbv<;>simp) ?_
  refine lp_one hG ?_
  cbv
  refine call hG [] (vshr_ok l m s t la lb bl bm) ⟨rfl,rfl,rfl⟩ ?_
  rintro _ _ ⟨Z,z,rfl,rfl,hZ,hz⟩
  cbv
  refine call hG [] (rbin_shift (.ofNat 42) (.inr (.inl rfl)) l m s t la lb bl bm) ⟨rfl,rfl,rfl⟩ ?_
  rintro _ _ ⟨Y,y,rfl,rfl,hY,hy⟩
  cbv
  have P:Sm Z z Y y:=by rw [hZ,hz,hY,hy];exact sm_sh bl bm rfl rfl
  refine call hG [] (kbr (c:=true) (rsame_ok Z Y z y P.k.1 P.k.2) P.b) ⟨rfl,rfl,rfl⟩ ?_
  rintro _ _ ⟨rfl,rfl⟩
  cbv
  refine okd hG (by kernel_rfl) ?_
  refine call hG [10] (spoil1_ok Z z P.k.1) ⟨rfl,rfl,rfl⟩ ?_
  rintro _ _ ⟨rfl,rfl⟩
  cbv
  refine lp_le hG (s':=stT2 l m s t j 20) (by constructor<;>cbv<;>simp) ?_
  refine lp_one hG ?_
  cbv
  refine call hG [] (vashl_ok l m s t la lb bl bm) ⟨rfl,rfl,rfl⟩ ?_
  rintro _ _ ⟨Z,z,rfl,rfl,hZ,hz⟩
  cbv
  refine call hG [] (rbin_shift (.ofNat 43) (.inr (.inr (.inl rfl))) l m s t la lb bl bm) ⟨rfl,rfl,rfl⟩ ?_
  rintro _ _ ⟨Y,y,rfl,rfl,hY,hy⟩
  cbv
  have P:Sm Z z Y y:=by rw [hZ,hz,hY,hy];exact sm_sh bl bm rfl rfl
  refine call hG [] (kbr (c:=true) (rsame_ok Z Y z y P.k.1 P.k.2) P.b) ⟨rfl,rfl,rfl⟩ ?_
  rintro _ _ ⟨rfl,rfl⟩
  cbv
  refine okd hG (by kernel_rfl) ?_
  refine call hG [10] (spoil1_ok Z z P.k.1) ⟨rfl,rfl,rfl⟩ ?_
  rintro _ _ ⟨rfl,rfl⟩
  cbv
  refine lp_le hG (s':=stT2 l m s t j 21) (by constructor<;>cbv<;>simp) ?_
  refine lp_one hG ?_
  cbv
  refine call hG [] (vashr_ok l m s t la lb bl bm) ⟨rfl,rfl,rfl⟩ ?_
  rintro _ _ ⟨Z,z,rfl,rfl,hZ,hz⟩
  cbv
  refine call hG [] (rbin_shift (.ofNat 44) (.inr (.inr (.inr rfl))) l m s t la lb bl bm) ⟨rfl,rfl,rfl⟩ ?_
  rintro _ _ ⟨Y,y,rfl,rfl,hY,hy⟩
  cbv
  have P:Sm Z z Y y:=by rw [hZ,hz,hY,hy];exact sm_sh bl bm rfl rfl
  refine call hG [] (kbr (c:=true) (rsame_ok Z Y z y P.k.1 P.k.2) P.b) ⟨rfl,rfl,rfl⟩ ?_
  rintro _ _ ⟨rfl,rfl⟩
  cbv
  refine okd hG (by kernel_rfl) ?_
  refine call hG [10] (spoil1_ok Z z P.k.1) ⟨rfl,rfl,rfl⟩ ?_
  rintro _ _ ⟨rfl,rfl⟩
  cbv
  refine lp_le hG (s':=stT2 l m s t j 22) (by constructor<;>cbv<;>simp) ?_
  refine lp_one hG ?_
  cbv
  refine call hG [] (vcaseEq_ok l m s t la lb bl bm) ⟨rfl,rfl,rfl⟩ ?_
  rintro _ _ ⟨Z,z,rfl,rfl,hZ,hz⟩
  cbv
  refine call hG [] (rbin_cmp (.ofNat 29) (by decide) l m s t la lb bl bm) ⟨rfl,rfl,rfl⟩ ?_
  rintro _ _ ⟨Y,y,rfl,rfl,hY,hy⟩
  cbv
  have P:Sm [Z] z Y y:=by rw [hZ,hz,hY,hy];exact sm_one _ _ (cmp_ceq bl bm)
  refine call hG [] (kbr (c:=true) (rsame_ok [Z] Y z y P.k.1 P.k.2) P.b) ⟨rfl,rfl,rfl⟩ ?_
  rintro _ _ ⟨rfl,rfl⟩
  cbv
  refine okd hG (by kernel_rfl) ?_
  refine call hG [10] (spoil1_ok [Z] z P.k.1) ⟨rfl,rfl,rfl⟩ ?_
  rintro _ _ ⟨rfl,rfl⟩
  cbv
  refine lp_le hG (s':=stT2 l m s t j 23) (by constructor<;>cbv<;>simp) ?_
  refine lp_one hG ?_
  cbv
  refine call hG [] (vcaseNe_ok l m s t la lb bl bm) ⟨rfl,rfl,rfl⟩ ?_
  rintro _ _ ⟨Z,z,rfl,rfl,hZ,hz⟩
  cbv
  refine call hG [] (rbin_cmp (.ofNat 30) (by decide) l m s t la lb bl bm) ⟨rfl,rfl,rfl⟩ ?_
  rintro _ _ ⟨Y,y,rfl,rfl,hY,hy⟩
  cbv
  have P:Sm [Z] z Y y:=by rw [hZ,hz,hY,hy];exact sm_one _ _ (cmp_cne bl bm)
  refine call hG [] (kbr (c:=true) (rsame_ok [Z] Y z y P.k.1 P.k.2) P.b) ⟨rfl,rfl,rfl⟩ ?_
  rintro _ _ ⟨rfl,rfl⟩
  cbv
  refine okd hG (by kernel_rfl) ?_
  refine call hG [10] (spoil1_ok [Z] z P.k.1) ⟨rfl,rfl,rfl⟩ ?_
  rintro _ _ ⟨rfl,rfl⟩
  cbv
  refine lp_le hG (s':=stT2 l m s t j 24) (by constructor<;>cbv<;>simp) ?_
  refine lp_one hG ?_
  cbv
  have hj:j=(n:Int):=hj
  exact ⟨(G.ar .add .i64 j (Int.ofNat 1)),⟨n+1,inc hG hj (by omega),by omega⟩,mu hj (inc hG hj (by omega)) h3,by constructor<;>cbv<;>simp⟩
 ·exact hR _ (sws_le (s':=stT0 l m s t) (by constructor<;>cbv<;>simp) (mat_end l m s t bl bm hl hm q hq))
theorem mat_law (l m:List Int) (s t:Bool) (bl:Byt l) (bm:Byt m):FvC CX TB (.f 9 [] []) [.a [.u l,.b s],.a [.u m,.b t]] [] (RB true):=by
 refine fn_sws rfl rfl fun B d q hq0=>?_
 have hq:∀ x,x=true→q (.b x) []:=fun x hx=>hq0 _ _ ⟨x,rfl,rfl,hx⟩
 obtain ⟨G,hG⟩:∃ G,G=std CX TB B ⟨d,fun _=>none⟩:=⟨_,rfl⟩
 refine sws_seq hG fun R hR=>?_
 cbv
 refine hR _ ?_
 clear hR R
 refine sws_seq hG fun R hR=>?_
 cbv
 cases hg:(decide (140<l.length)||decide (140<m.length)) with
 | true=>
   refine call hG [] (kbr (c:=true) (long2_ok l m s t) hg) ⟨rfl,rfl,rfl⟩ ?_
   rintro _ _ ⟨rfl,rfl⟩
   cbv
   refine call hG [] (kbr (c:=true) awake_ok rfl) ⟨rfl,rfl,rfl⟩ ?_
   rintro _ _ ⟨rfl,rfl⟩
   cbv
   exact hq _ rfl
 | false=>
   refine call hG [] (kbr (c:=false) (long2_ok l m s t) hg) ⟨rfl,rfl,rfl⟩ ?_
   rintro _ _ ⟨rfl,rfl⟩
   cbv
   have hgl:l.length≤140∧m.length≤140:=by
    rw [Bool.or_eq_false_iff] at hg
    have a:=of_decide_eq_false hg.1
    have b:=of_decide_eq_false hg.2
    exact ⟨Nat.le_of_not_lt a,Nat.le_of_not_lt b⟩
   refine hR _ ?_
   clear hR R
   refine sws_seq hG fun R hR=>?_
   cbv
   refine call hG [] (own_ok l s (by omega)) ⟨rfl,rfl,rfl⟩ ?_
   rintro _ _ ⟨X,x,rfl,rfl,hX,hx⟩
   cbv
   refine call hG [] (own_ok m t (by omega)) ⟨rfl,rfl,rfl⟩ ?_
   rintro _ _ ⟨Y,y,rfl,rfl,hY,hy⟩
   cbv
   refine okd hG (by kernel_rfl) ?_
   subst hX hx hY hy
   exact hR _ (sws_le (s':=stT0 X Y x y) (by constructor<;>cbv<;>simp) (mat_loop X Y x y bl bm hgl.1 hgl.2 q hq))
end Go.Proofs.YtdgbdkfoeaollaaGreatDoor.V
