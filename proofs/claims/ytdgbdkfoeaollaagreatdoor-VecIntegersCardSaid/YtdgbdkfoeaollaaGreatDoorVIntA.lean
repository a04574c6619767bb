/- VecIntegers: what is known of the operands; the shifts (printed by VInt.py). -/
import Derived.Test.YtdgbdkfoeaollaaGreatDoorVZe
import Derived.Test.YtdgbdkfoeaollaaGreatDoorVZd
import Derived.Test.YtdgbdkfoeaollaaGreatDoorVW
import Derived.Test.YtdgbdkfoeaollaaGreatDoorVG
import Derived.Test.YtdgbdkfoeaollaaGreatDoorALe
set_option linter.unusedSimpArgs false
set_option linter.unusedVariables false
set_option cbv.maxSteps 4000000
set_option maxRecDepth 100000
set_option maxHeartbeats 8000000
namespace Go.Proofs.YtdgbdkfoeaollaaGreatDoor.V
open Go Go.AL Go.SX
structure Ik (a b:List Bool) (A B:List Int) (s t g:Bool) (i k w:Int):Prop where
 T:T64 a b
 la:a.length≤31
 lb:b.length≤31
 eA:A=intL a
 eB:B=intL b
 eg:g=(s&&t)
 ei:i=vv g a
 ek:k=vv g b
 ew:w=((wd a b:Nat):Int)
section
variable {a b:List Bool} {A B:List Int} {s t g:Bool} {i k w:Int} (P:Ik a b A B s t g i k w)
include P
theorem Ik.lA:A.length<2^14∧A.length≤31∧A.length=a.length:=by rw [P.eA,intL_len];have:=P.la;omega
theorem Ik.lB:B.length<2^14∧B.length≤31∧B.length=b.length:=by rw [P.eB,intL_len];have:=P.lb;omega
theorem Ik.bA:Byt A:=by rw [P.eA];exact byt_nv P.T.nvA
theorem Ik.bB:Byt B:=by rw [P.eB];exact byt_nv P.T.nvB
theorem Ik.nA:nB A=A:=by rw [P.eA];exact nB_id P.T.nvA
theorem Ik.nB':nB B=B:=by rw [P.eB];exact nB_id P.T.nvB
theorem Ik.bg:bg A s B t=g:=by rw [P.eA,P.eB,bg_I P.T.toTwo,P.eg]
theorem Ik.wl:wd a b≤31:=Nat.max_le.2 ⟨P.la,P.lb⟩
theorem Ik.w1:1≤wd a b:=P.T.w1
theorem Ik.okw:okW w=true:=by
 have h1:=P.w1;have h2:=P.wl;have h3:=P.ew
 unfold okW
 rw [decide_eq_true (by omega),decide_eq_true (by omega)];rfl
theorem Ik.wN:w.toNat=wd a b:=by rw [P.ew,Int.toNat_natCast]
theorem Ik.rk:Rng g (wd a b) k:=by rw [P.ek];exact P.T.rB g
theorem Ik.zl (x:Int):(intL (X.ofI (wd a b) x)).length<2^20:=by rw [intL_len,X.ofI_length];have:=P.wl;omega
end
theorem vv_small {g:Bool} {l:List Bool} (h1:1≤l.length) (h:l.length≤31):-(2:Int)^31≤vv g l∧vv g l<(2:Int)^31:=by
 have r:=(vv_rng g h1 (by omega:l.length≤64)).up (W:=31) h (by decide)
 cases g with
 | true=>obtain ⟨_,_,a,b⟩:=(show X.Sg 31 (vv true l) from r);omega
 | false=>obtain ⟨_,_,a,b⟩:=(show 1≤31∧31≤64∧0≤vv false l∧vv false l<(2:Int)^31 from r);omega
theorem vint_J {A:List Int} (a:List Bool) (eA:A=intL a) (s:Bool) (h1:1≤a.length) (h2:a.length≤31):FvC CX TB (.f 59 [] []) [.a [.u A,.b s]] [] (fun r ro=>∃ x,r=.t [.i .i64 x,.kb true]∧ro=[]∧x=vv s a):=by
 rw [eA];exact vint_I a s h1 (by omega)
def stI (A B:List Int) (s t g:Bool) (i k w:Int):SX.St:=⟨((((((T.nil.set 4 (SV.b s)).set 13 (.o 1 0)).set 15 (.o 3 0)).set 17 (.b g)).set 20 (.i .i64 i)).set 22 (.i .i64 k)).set 24 (.i .i64 w),[.u A,.x [.s 0,.b s],.u B,.x [.s 2,.b t]]⟩
theorem i64_fdiv {x:Int} {n:Nat} (h:-(2:Int)^31≤x∧x<(2:Int)^31):I64 (x.fdiv (2^n)):=by
 rw [X.fdiv_ediv]
 have h1:x / 2^n≤x.natAbs:=by
  rcases Int.le_total 0 x with h0 | h0
  ·have:=Int.ediv_le_self (2^n) h0;omega
  ·have hp:=X.p2pos n
   have:x / 2^n≤0:=by
    rcases Int.lt_or_le 0 (x / 2^n) with hh | hh
    ·have:=Int.mul_ediv_self_le (x:=x) (k:=2^n) (Int.ne_of_gt hp)
     have h5:0<2^n*(x / 2^n):=Int.mul_pos hp hh
     omega
    ·exact hh
   omega
 have h2:-(x.natAbs:Int)≤x / 2^n:=by
  rcases Int.le_total 0 x with h0 | h0
  ·have:=Int.ediv_nonneg h0 (Int.le_of_lt (X.p2pos n));omega
  ·have hp:=X.p2pos n
   have h3:x≤x / 2^n:=by
    rw [Int.le_ediv_iff_mul_le hp]
    have h6:x*(2^n-1)≤0:=Int.mul_nonpos_of_nonpos_of_nonneg h0 (by omega)
    rw [Int.mul_sub] at h6
    omega
   omega
 unfold I64
 omega
theorem int_end {B':AH} {d:Nat→Prop} {a b:List Bool} {A B:List Int} {s t g:Bool} {i k w:Int} (P:Ik a b A B s t g i k w) (q:SV→List SX.Obj→Prop) (hq:∀ x,x=true→q (.b x) []):SWs CX TB B' ⟨d,fun _=>none⟩ (dropC 13 IR.fi7.code) (stI A B s t g i k w) (post [.tmp 12] q):=by
 have la:=P.lA.1
 have lb:=P.lB.1
 have ka:A.length<2^15:=by have:=P.lA.2.1;omega
 have kb:B.length<2^15:=by have:=P.lB.2.1;omega
 have ba:=P.bA
 have bb:=P.bB
 obtain ⟨G,hG⟩:∃ G,G=std CX TB B' ⟨d,fun _=>none⟩:=⟨_,rfl⟩
 have a1:=P.T.a1
 have b1:=P.T.b1
 have hla:=P.la
 have hlb:=P.lb
 have sA:=fun g=>vv_small (g:=g) a1 hla
 have sB:=fun g=>vv_small (g:=g) b1 hlb
 refine sws_seq hG fun R hR=>?_
 cbv
 refine call hG [] (vint_J a P.eA s a1 hla) ⟨rfl,rfl,rfl⟩ ?_
 rintro _ _ ⟨own,rfl,rfl,hown⟩
 cbv
 refine hR _ ?_
 clear hR R
 refine sws_seq hG fun R hR=>?_
 cbv
 refine call hG [] (withSign_ok B t false kb) ⟨rfl,rfl,rfl⟩ ?_
 rintro _ _ ⟨Y,y,rfl,rfl,hY,hy⟩
 cbv
 have eY:Y=intL b:=by rw [hY,P.nB',P.eB]
 subst hy
 refine call hG [] (vint_J b eY false b1 hlb) ⟨rfl,rfl,rfl⟩ ?_
 rintro _ _ ⟨am,rfl,rfl,ham⟩
 cbv
 have ham:am=vv false b:=ham
 refine hR _ ?_
 clear hR R
 refine sws_seq hG fun R hR=>?_
 cbv
 refine hR _ ?_
 clear hR R
 refine sws_seq hG fun R hR=>?_
 cbv
 have eam:am=((X.val b:Nat):Int):=ham
 have ram:=sB false
 have sown:=sA s
 rw [←hown] at sown
 rw [←ham] at ram
 have ecv:G.cv .u64 am=am:=by rw [hG];exact fwu (by omega)
 have nn:G.nn (G.cv .u64 am):=by rw [ecv,hG];show 0≤am;omega
 have hlA:G.lu A=((a.length:Nat):Int):=by rw [hG,←P.lA.2.2];rfl
 have okA:okW (G.lu A)=true:=by rw [hlA];unfold okW;rw [decide_eq_true (by omega),decide_eq_true (by omega)];rfl
 have nA:(G.lu A).toNat=a.length:=by rw [hlA,Int.toNat_natCast]
 have iL:I64 (G.sh .shl .i64 own (G.cv .u64 am)):=by rw [hG];exact i64_wrap _
 have iR:I64 (G.sh .shr .i64 own (G.cv .u64 am)):=by rw [hG];exact i64_fdiv sown
 have iN:I64 (G.un .neg .i64 own):=by rw [hG];exact i64_fw _
 refine ⟨nn,?_⟩
 refine call hG [] (kre (fromInt_ok (G.sh .shl .i64 own (G.cv .u64 am)) (G.lu A) s iL) okA) ⟨rfl,rfl,rfl⟩ ?_
 rintro _ _ ⟨L,l,rfl,rfl,hL,hl⟩
 cbv
 refine hR _ ?_
 clear hR R
 refine sws_seq hG fun R hR=>?_
 cbv
 refine ⟨nn,?_⟩
 refine call hG [] (kre (fromInt_ok (G.sh .shr .i64 own (G.cv .u64 am)) (G.lu A) s iR) okA) ⟨rfl,rfl,rfl⟩ ?_
 rintro _ _ ⟨S,r,rfl,rfl,hS,hr⟩
 cbv
 refine hR _ ?_
 clear hR R
 refine sws_seq hG fun R hR=>?_
 cbv
 refine call hG [] (kre (fromInt_ok (G.un .neg .i64 own) (G.lu A) s iN) okA) ⟨rfl,rfl,rfl⟩ ?_
 rintro _ _ ⟨N,n,rfl,rfl,hN,hn⟩
 cbv
 refine hR _ ?_
 clear hR R
 refine sws_W hG ?_
 cbv
 have kk:∀ z:Int,(intL (X.ofI (G.lu A).toNat z)).length<2^20:=fun z=>by rw [intL_len,X.ofI_length,nA];omega
 have eL:L=shL (-1) (fun _ _=>0) A s B:=by rw [hL,nA,P.eA,P.eB,shl_I P.T,ecv,hown,eam,hG];rfl
 have eS:S=shL 1 top A s B:=by rw [hS,nA,P.eA,P.eB,shr_I P.T,ecv,hown,eam,hG];rfl
 have eN:N=negL A s:=by rw [hN,nA,P.eA,neg_I a1 P.T.a2,hown,hG];rfl
 have es:nS A s=s:=by rw [P.eA];exact nS_id P.T.nvA s
 refine call hG [] (vshl_ok A B s t la lb ba bb) ⟨rfl,rfl,rfl⟩ ?_
 rintro _ _ ⟨Z,z,rfl,rfl,hZ,hz⟩
 cbv
 refine call hG [] (kbr (c:=true) (rsame_ok Z L z l (by rw [hZ,←eL,hL];exact kk _) (by rw [hL];exact kk _)) (by rw [hZ,hz,eL,hl,es];simp)) ⟨rfl,rfl,rfl⟩ ?_
 rintro _ _ ⟨rfl,rfl⟩
 cbv
 refine call hG [] (vashr_ok A B s t la lb ba bb) ⟨rfl,rfl,rfl⟩ ?_
 rintro _ _ ⟨U,u,rfl,rfl,hU,hu⟩
 cbv
 refine call hG [] (kbr (c:=true) (rsame_ok U S u r (by rw [hU,←eS,hS];exact kk _) (by rw [hS];exact kk _)) (by rw [hU,hu,eS,hr,es];simp)) ⟨rfl,rfl,rfl⟩ ?_
 rintro _ _ ⟨rfl,rfl⟩
 cbv
 refine call hG [] (vneg_ok A s ka ba) ⟨rfl,rfl,rfl⟩ ?_
 rintro _ _ ⟨V,v,rfl,rfl,hV,hv⟩
 cbv
 refine call hG [] (kbr (c:=true) (rsame_ok V N v n (by rw [hV,←eN,hN];exact kk _) (by rw [hN];exact kk _)) (by rw [hV,hv,eN,hn,P.nA,es,neg_sg (by rw [P.eA];exact P.T.nvA)];simp)) ⟨rfl,rfl,rfl⟩ ?_
 rintro _ _ ⟨rfl,rfl⟩
 cbv
 refine okd hG (by kernel_rfl) ?_
 exact hq _ rfl
end Go.Proofs.YtdgbdkfoeaollaaGreatDoor.V
