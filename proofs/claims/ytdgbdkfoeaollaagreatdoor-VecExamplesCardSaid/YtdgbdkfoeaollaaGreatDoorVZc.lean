/- Comparisons and shifts. -/
import Derived.Test.YtdgbdkfoeaollaaGreatDoorVZa
import Derived.Test.YtdgbdkfoeaollaaGreatDoorVG
import Derived.Test.YtdgbdkfoeaollaaGreatDoorALe
set_option linter.unusedSimpArgs false
set_option linter.unusedVariables false
set_option maxRecDepth 100000
namespace Go.Proofs.YtdgbdkfoeaollaaGreatDoor.V
open Go Go.AL Go.SX
def cmpV (g:Bool) (x y:List Bool):Int:=if g then X.scmpN x y else X.cmpN (X.val x) (X.val y)
def cpB (is:Int→Bool) (l:List Int) (s:Bool) (m:List Int) (t:Bool):Int:=
 if kn (bX l s m t)&&kn (bY l s m t) then ofB (is (cmpV (bg l s m t) (boolL (bX l s m t)) (boolL (bY l s m t)))) else 2
section
variable (l m:List Int) (s t:Bool) (hl:l.length<2^14) (hm:m.length<2^14) (bl:Byt l) (bm:Byt m)
include hl hm bl bm
theorem compare_ok (k:Nat) (fs cs:List SV) (is:Int→Bool) (hf:∀ c,FvC CX TB (.fq k fs cs) [.i .i64 c] [] (RB (is c))):FvC CX TB (.f 126 [] []) [.a [.u l,.b s],.a [.u m,.b t],.fq k fs cs] [] (RV1 (cpB is l s m t) false):=by
 have nX:=bX_nv (s:=s) (t:=t) bl bm
 have nY:=bY_nv (s:=s) (t:=t) bl bm
 refine fn_ok rfl rfl fun B D G hG q hq=>?_
 cbv
 refine call hG [] (balance_ok l m s t hl hm) ⟨rfl,rfl,rfl⟩ ?_
 rintro _ _ ⟨X,Y,g,h,rfl,rfl,hX,hY,hg,hh⟩
 cbv
 unfold cpB at hq
 rw [←hX,←hY] at hq
 rw [←hX] at nX
 rw [←hY] at nY
 have lX:=nX.len
 have lY:=nY.len
 refine call hG [] (vknown_ok X g (by omega)) ⟨rfl,rfl,rfl⟩ ?_
 rintro _ _ ⟨kx,rfl,rfl,hkx⟩
 cbv
 rw [nB_id nX] at hkx
 refine SX.ite hG (fun h1=>?_) (fun h1=>?_)
 ·have h1:kx=false:=by rw [hG] at h1;simpa [std] using h1
  rw [h1] at hkx
  refine call hG [] (single_ok (.ofNat 2)) ⟨rfl,rfl,rfl⟩ ?_
  rintro _ _ ⟨M,k0,rfl,rfl,hM,hk0⟩
  cbv
  exact hq _ _ ⟨_,_,rfl,rfl,by rw [hM,←hkx];rfl,hk0⟩
 have h1:kx=true:=by rw [hG] at h1;simpa [std] using h1
 rw [h1] at hkx
 refine call hG [] (vknown_ok Y h (by omega)) ⟨rfl,rfl,rfl⟩ ?_
 rintro _ _ ⟨ky,rfl,rfl,hky⟩
 cbv
 rw [nB_id nY] at hky
 refine SX.ite hG (fun h2=>?_) (fun h2=>?_)
 ·have h2:ky=false:=by rw [hG] at h2;simpa [std] using h2
  rw [h2] at hky
  refine call hG [] (single_ok (.ofNat 2)) ⟨rfl,rfl,rfl⟩ ?_
  rintro _ _ ⟨M,k0,rfl,rfl,hM,hk0⟩
  cbv
  exact hq _ _ ⟨_,_,rfl,rfl,by rw [hM,←hkx,←hky];rfl,hk0⟩
 have h2:ky=true:=by rw [hG] at h2;simpa [std] using h2
 rw [h2] at hky
 rw [←hkx,←hky,←hg] at hq
 refine SX.ite hG (fun h3=>?_) (fun h3=>?_)
 ·rw [h3] at hq
  refine call hG [] (bools_ok X g (by omega)) ⟨rfl,rfl,rfl⟩ ?_
  rintro _ _ ⟨x,rfl,rfl,hx⟩
  cbv
  refine call hG [] (bools_ok Y h (by omega)) ⟨rfl,rfl,rfl⟩ ?_
  rintro _ _ ⟨y,rfl,rfl,hy⟩
  cbv
  refine call hG [] (bscmp_ok x y (by rw [hx,boolL_len];omega) (by rw [hy,boolL_len];omega)) ⟨rfl,rfl,rfl⟩ ?_
  rintro _ _ ⟨c,rfl,rfl,hc⟩
  cbv
  refine callQ hG [] (hf c) ⟨rfl,rfl,rfl⟩ ?_
  rintro _ _ ⟨d,rfl,rfl,hd⟩
  cbv
  refine call hG [] (ofB_ok d) ⟨rfl,rfl,rfl⟩ ?_
  rintro _ _ ⟨e,rfl,rfl,he⟩
  cbv
  refine call hG [] (single_ok e) ⟨rfl,rfl,rfl⟩ ?_
  rintro _ _ ⟨M,k0,rfl,rfl,hM,hk0⟩
  cbv
  exact okd hG rfl (hq _ _ ⟨_,_,rfl,rfl,by rw [hM,he,hd,hc,hx,hy];rfl,hk0⟩)
 ·rw [h3] at hq
  refine call hG [] (bools_ok X g (by omega)) ⟨rfl,rfl,rfl⟩ ?_
  rintro _ _ ⟨x,rfl,rfl,hx⟩
  cbv
  refine call hG [] (bools_ok Y h (by omega)) ⟨rfl,rfl,rfl⟩ ?_
  rintro _ _ ⟨y,rfl,rfl,hy⟩
  cbv
  refine call hG [] (bcmp_ok x y (by rw [hx,boolL_len];omega) (by rw [hy,boolL_len];omega)) ⟨rfl,rfl,rfl⟩ ?_
  rintro _ _ ⟨c,rfl,rfl,hc⟩
  cbv
  refine callQ hG [] (hf c) ⟨rfl,rfl,rfl⟩ ?_
  rintro _ _ ⟨d,rfl,rfl,hd⟩
  cbv
  refine call hG [] (ofB_ok d) ⟨rfl,rfl,rfl⟩ ?_
  rintro _ _ ⟨e,rfl,rfl,he⟩
  cbv
  refine call hG [] (single_ok e) ⟨rfl,rfl,rfl⟩ ?_
  rintro _ _ ⟨M,k0,rfl,rfl,hM,hk0⟩
  cbv
  exact okd hG rfl (hq _ _ ⟨_,_,rfl,rfl,by rw [hM,he,hd,hc,hx,hy];rfl,hk0⟩)
omit hl hm bl bm in
theorem lt1_ok (c:Int):FvC CX TB (.f 127 [] []) [.i .i64 c] [] (RB (decide (c<0))):=by
 refine fn_ok rfl rfl fun B D G hG q hq=>?_
 cbv
 exact hq _ _ ⟨_,rfl,rfl,by rw [hG];rfl⟩
omit hl hm bl bm in
theorem le1_ok (c:Int):FvC CX TB (.f 129 [] []) [.i .i64 c] [] (RB (decide (c≤0))):=by
 refine fn_ok rfl rfl fun B D G hG q hq=>?_
 cbv
 exact hq _ _ ⟨_,rfl,rfl,by rw [hG];rfl⟩
omit hl hm bl bm in
theorem gt1_ok (c:Int):FvC CX TB (.f 130 [] []) [.i .i64 c] [] (RB (decide (c > 0))):=by
 refine fn_ok rfl rfl fun B D G hG q hq=>?_
 cbv
 exact hq _ _ ⟨_,rfl,rfl,by rw [hG];rfl⟩
omit hl hm bl bm in
theorem ge1_ok (c:Int):FvC CX TB (.f 128 [] []) [.i .i64 c] [] (RB (decide (c≥0))):=by
 refine fn_ok rfl rfl fun B D G hG q hq=>?_
 cbv
 exact hq _ _ ⟨_,rfl,rfl,by rw [hG];rfl⟩
theorem vlt_ok:FvC CX TB (.f 50 [] []) [.a [.u l,.b s],.a [.u m,.b t]] [] (RV1 (cpB (fun c=>decide (c<0)) l s m t) false):=by
 refine fn_ok rfl rfl fun B D G hG q hq=>?_
 cbv
 refine call hG [] (compare_ok l m s t hl hm bl bm 127 [] [] (fun c=>decide (c<0)) (fun c=>fq_ok (lt1_ok c))) ⟨rfl,rfl,rfl⟩ ?_
 rintro _ _ ⟨M,k0,rfl,rfl,hM,hk0⟩
 cbv
 exact hq _ _ ⟨_,_,rfl,rfl,hM,hk0⟩
theorem vle_ok:FvC CX TB (.f 52 [] []) [.a [.u l,.b s],.a [.u m,.b t]] [] (RV1 (cpB (fun c=>decide (c≤0)) l s m t) false):=by
 refine fn_ok rfl rfl fun B D G hG q hq=>?_
 cbv
 refine call hG [] (compare_ok l m s t hl hm bl bm 129 [] [] (fun c=>decide (c≤0)) (fun c=>fq_ok (le1_ok c))) ⟨rfl,rfl,rfl⟩ ?_
 rintro _ _ ⟨M,k0,rfl,rfl,hM,hk0⟩
 cbv
 exact hq _ _ ⟨_,_,rfl,rfl,hM,hk0⟩
theorem vgt_ok:FvC CX TB (.f 53 [] []) [.a [.u l,.b s],.a [.u m,.b t]] [] (RV1 (cpB (fun c=>decide (c > 0)) l s m t) false):=by
 refine fn_ok rfl rfl fun B D G hG q hq=>?_
 cbv
 refine call hG [] (compare_ok l m s t hl hm bl bm 130 [] [] (fun c=>decide (c > 0)) (fun c=>fq_ok (gt1_ok c))) ⟨rfl,rfl,rfl⟩ ?_
 rintro _ _ ⟨M,k0,rfl,rfl,hM,hk0⟩
 cbv
 exact hq _ _ ⟨_,_,rfl,rfl,hM,hk0⟩
theorem vge_ok:FvC CX TB (.f 51 [] []) [.a [.u l,.b s],.a [.u m,.b t]] [] (RV1 (cpB (fun c=>decide (c≥0)) l s m t) false):=by
 refine fn_ok rfl rfl fun B D G hG q hq=>?_
 cbv
 refine call hG [] (compare_ok l m s t hl hm bl bm 128 [] [] (fun c=>decide (c≥0)) (fun c=>fq_ok (ge1_ok c))) ⟨rfl,rfl,rfl⟩ ?_
 rintro _ _ ⟨M,k0,rfl,rfl,hM,hk0⟩
 cbv
 exact hq _ _ ⟨_,_,rfl,rfl,hM,hk0⟩
end
def shN (n:Nat) (y:List Int):Nat:=if X.val (boolL y)<n then X.val (boolL y) else n
def shF (L:List Int) (dir:Int) (n:Nat) (f:Int) (i:Nat):Int:=if 0≤(i:Int)+dir*(n:Int)∧(i:Int)+dir*(n:Int)<(L.length:Int) then gu L ((i:Int)+dir*(n:Int)) else f
def shL (dir:Int) (fr:List Int→Bool→Int) (l:List Int) (s:Bool) (m:List Int):List Int:=
 if kn (nB m) then (List.range (nB l).length).map (shF (nB l) dir (shN (nB l).length (nB m)) (fr (nB l) (nS l s))) else List.replicate (nB l).length 2
theorem shM_get {L:List Int} {dir:Int} {n:Nat} {f:Int} {i:Nat} (h:i<L.length):gu ((List.range L.length).map (shF L dir n f)) i=shF L dir n f i:=by
 show (((List.range L.length).map (shF L dir n f))[((i:Nat):Int).toNat]?).getD 0=_
 rw [Int.toNat_natCast,List.getElem?_map,List.getElem?_range h];rfl
theorem shift_ok (l m:List Int) (s t:Bool) (hl:l.length<2^14) (hm:m.length<2^14) (bl:Byt l) (bm:Byt m) (dir:Int) (hdir:dir=1∨dir=-1) (k:Nat) (fs cs:List SV) (fr:List Int→Bool→Int) (hfr:∀ (L:List Int) (g:Bool),NV L→FvC CX TB (.fq k fs cs) [.a [.u L,.b g]] [] (RI .u8 (fr L g))) :
  FvC CX TB (.f 120 [] []) [.a [.u l,.b s],.a [.u m,.b t],.i .i64 dir,.fq k fs cs] [] (RV (shL dir fr l s m) (nS l s)):=by
 have nvl:=nB_nv bl
 have nvm:=nB_nv bm
 refine fn_ok rfl rfl fun B D G hG q hq=>?_
 cbv
 refine call hG [] (norm_ok l s (by omega)) ⟨rfl,rfl,rfl⟩ ?_
 rintro _ _ ⟨L,g,rfl,rfl,hL,hg⟩
 cbv
 refine call hG [] (norm_ok m t (by omega)) ⟨rfl,rfl,rfl⟩ ?_
 rintro _ _ ⟨M,h,rfl,rfl,hM,hh⟩
 cbv
 refine okd hG rfl ?_
 have nL:NV L:=by rw [hL];exact nvl
 have nM:NV M:=by rw [hM];exact nvm
 have lL:=nL.len
 have lM:=nM.len
 unfold shL at hq
 rw [←hL,←hM,←hg] at hq
 have hfw:0≤G.lu L∧G.lu L<2^15:=by rw [hG];show 0≤((L.length:Nat):Int)∧((L.length:Nat):Int)<2^15;omega
 refine call hG [] (vknown_ok M h (by omega)) ⟨rfl,rfl,rfl⟩ ?_
 rintro _ _ ⟨km,rfl,rfl,hkm⟩
 cbv
 rw [nB_id nM] at hkm
 refine SX.ite hG (fun h1=>?_) (fun h1=>?_)
 ·have h1:km=false:=by rw [hG] at h1;simpa [std] using h1
  rw [h1] at hkm
  refine call hG [] (fill_ok (.ofNat 2) (G.lu L) g hfw) ⟨rfl,rfl,rfl⟩ ?_
  rintro _ _ ⟨Z,z,rfl,rfl,hZ,hz⟩
  cbv
  exact hq _ _ ⟨_,_,rfl,rfl,by rw [hZ,←hkm,hG];rfl,hz⟩
 have h1:km=true:=by rw [hG] at h1;simpa [std] using h1
 rw [h1] at hkm
 rw [←hkm] at hq
 refine call hG [] (bools_ok M h (by omega)) ⟨rfl,rfl,rfl⟩ ?_
 rintro _ _ ⟨y,rfl,rfl,hy⟩
 cbv
 refine call hG [] (bUint_ok y (by rw [hy,boolL_len];omega)) ⟨rfl,rfl,rfl⟩ ?_
 rintro _ _ ⟨a,b,rfl,rfl,ha,hb⟩
 cbv
 rw [hy] at ha hb
 have ecv:G.cv .u64 (G.lu L)=(L.length:Int):=by rw [hG];show fwrap .u64 (L.length:Int)=_;exact fwu (by omega)
 have hv:∀ n:Nat,n=X.val (boolL M)→(b=decide (n<2^64))∧a=(if n<2^64 then (n:Int) else 0):=fun n hn=>by rw [hn];exact ⟨hb,ha⟩
 have hlu:G.lu L=(L.length:Int):=by rw [hG];rfl
 refine SX.ite hG (fun h2=>?_) (fun h2=>?_)
 ·have h3:X.val (boolL M)<2^64:=of_decide_eq_true (by rw [←hb];exact h2)
  rw [if_pos h3] at ha
  refine SX.ite hG (fun h4=>?_) (fun h4=>?_)
  ·have h5:X.val (boolL M)<L.length:=by
    have h4:G.cmp .lss a (G.cv .u64 (G.lu L))=true:=h4
    rw [ecv,ha,hG] at h4
    have h4:((X.val (boolL M):Nat):Int)<(L.length:Int):=of_decide_eq_true h4
    omega
   have esh:shN L.length M=X.val (boolL M):=by unfold shN;rw [if_pos h5]
   have eN:G.cv .i64 a=((shN L.length M:Nat):Int):=by rw [ha,esh,hG];show fwrap .i64 ((X.val (boolL M):Nat):Int)=_;exact fwi (by omega)
   have nb:shN L.length M≤128:=by unfold shN;split<;>omega
   refine callQ hG [] (hfr L g nL) ⟨rfl,rfl,rfl⟩ ?_
   rintro _ _ ⟨f,rfl,rfl,hf⟩
   cbv
   refine call hG [] (fill_ok f (G.lu L) g hfw) ⟨rfl,rfl,rfl⟩ ?_
   rintro _ _ ⟨Z,z,rfl,rfl,hZ,hz⟩
   cbv
   refine okd hG (by kernel_rfl) ?_
   have hZl:Z.length=L.length:=by rw [hZ,List.length_replicate,hG];rfl
   have hZ2:∀ i:Nat,i<L.length→gu Z i=f:=fun i hi=>by
    rw [hZ];unfold gu;rw [Int.toNat_natCast,List.getElem?_replicate,if_pos (by rw [hG];exact hi)];rfl
   rw [←hf] at hq
   clear hZ
   refine lp hG (α:=Int×List Int) (fun p=>∃ n:Nat,p.1=(n:Int)∧n≤L.length∧p.2.length=L.length∧∀ i:Nat,i<L.length→gu p.2 i=if i<n then shF L dir (shN L.length M) f i else f) (fun p=>L.length-p.1.toNat) (fun s p=>(s.put (some 58) (.i .i64 p.1)).setO 6 (.u p.2)) (0,Z) ⟨0,rfl,Nat.zero_le _,hZl,by simpa using hZ2⟩ (by constructor<;>cbv<;>simp) ?_
   rintro ⟨j,W⟩ ⟨n,hj,hn,hW,hi5⟩
   have hW:W.length=L.length:=hW
   cbv
   have hj:j=(n:Int):=hj
   have hi5:∀ i:Nat,i<L.length→gu W i=if i<n then shF L dir (shN L.length M) f i else f:=hi5
   have same:shF L dir (shN L.length M) f n=f→∀ i:Nat,i<L.length→gu W i=if i<n+1 then shF L dir (shN L.length M) f i else f:=fun hs i hlt=>by
    rw [hi5 i hlt]
    by_cases h5:i<n
    ·rw [if_pos h5,if_pos (by omega)]
    ·rw [if_neg h5]
     by_cases h7:i=n
     ·rw [if_pos (by omega),h7,hs]
     ·rw [if_neg (by omega)]
   refine SX.ite hG (fun h6=>?_) (fun h6=>?_)
   ·have h6:n<L.length:=by
     rw [hG,hj] at h6
     have h6:(n:Int)<(Z.length:Int):=of_decide_eq_true h6
     omega
    have ea:G.ar .add .i64 j (G.ar .mul .i64 dir (G.cv .i64 a))=(n:Int)+dir*((shN L.length M:Nat):Int):=by
     rw [eN,hj]
     have e1:G.ar .mul .i64 dir ((shN L.length M:Nat):Int)=dir*((shN L.length M:Nat):Int):=by
      rw [hG];exact fwi (by rcases hdir with rfl | rfl<;>omega)
     rw [e1]
     exact addi hG (by rcases hdir with rfl | rfl<;>omega)
    refine SX.ite hG (fun h7=>?_) (fun h7=>?_)
    ·have h7:(n:Int)+dir*((shN L.length M:Nat):Int)≥0:=by
      have h7:G.cmp .geq (G.ar .add .i64 j (G.ar .mul .i64 dir (G.cv .i64 a))) 0=true:=h7
      rw [ea,hG] at h7;exact of_decide_eq_true h7
     refine SX.ite hG (fun h8=>?_) (fun h8=>?_)
     ·have h8:(n:Int)+dir*((shN L.length M:Nat):Int)<(L.length:Int):=by
       have h8:G.cmp .lss (G.ar .add .i64 j (G.ar .mul .i64 dir (G.cv .i64 a))) (G.lu L)=true:=h8
       rw [ea,hG] at h8;exact of_decide_eq_true h8
      have v1:G.ix (G.ar .add .i64 j (G.ar .mul .i64 dir (G.cv .i64 a))) (G.lu L):=by rw [ea,hG];exact ⟨h7,h8⟩
      have v2:G.ix j (G.lu W):=by rw [hG,hj];show 0≤(n:Int)∧(n:Int)<(W.length:Int);omega
      refine ⟨v1,v1,v2,v2,okd hG (by kernel_rfl) ?_⟩
      have ex:G.gu L (G.ar .add .i64 j (G.ar .mul .i64 dir (G.cv .i64 a)))=shF L dir (shN L.length M) f n:=by unfold shF;rw [if_pos ⟨h7,h8⟩,ea,hG];rfl
      have ek:G.su W j (G.gu L (G.ar .add .i64 j (G.ar .mul .i64 dir (G.cv .i64 a))))=W.set n (shF L dir (shN L.length M) f n):=by rw [ex,hG,hj];rfl
      have iv:∀ i:Nat,i<L.length→gu (G.su W j (G.gu L (G.ar .add .i64 j (G.ar .mul .i64 dir (G.cv .i64 a))))) i=if i<n+1 then shF L dir (shN L.length M) f i else f:=fun i hlt=>by
       rw [ek,gu_set (by omega)]
       split
       ·rename_i e;rw [e,if_pos (by omega)]
       ·rw [hi5 i hlt]
        by_cases h5:i<n
        ·rw [if_pos h5,if_pos (by omega)]
        ·rw [if_neg h5,if_neg (by omega)]
      have il:(G.su W j (G.gu L (G.ar .add .i64 j (G.ar .mul .i64 dir (G.cv .i64 a))))).length=L.length:=by rw [ek];simp [hW]
      exact ⟨(G.ar .add .i64 j (Int.ofNat 1),G.su W j (G.gu L (G.ar .add .i64 j (G.ar .mul .i64 dir (G.cv .i64 a))))),⟨n+1,inc hG hj (by omega),h6,il,iv⟩,mu hj (inc hG hj (by omega)) h6,by constructor<;>cbv<;>simp⟩
     ·have h8:¬ (n:Int)+dir*((shN L.length M:Nat):Int)<(L.length:Int):=by
       have h8:G.cmp .lss (G.ar .add .i64 j (G.ar .mul .i64 dir (G.cv .i64 a))) (G.lu L)=false:=h8
       rw [ea,hG] at h8;exact of_decide_eq_false h8
      exact ⟨(G.ar .add .i64 j (Int.ofNat 1),W),⟨n+1,inc hG hj (by omega),h6,hW,same (by unfold shF;rw [if_neg (fun h=>h8 h.2)])⟩,mu hj (inc hG hj (by omega)) h6,by constructor<;>cbv<;>simp⟩
    ·have h7:¬ (n:Int)+dir*((shN L.length M:Nat):Int)≥0:=by
      have h7:G.cmp .geq (G.ar .add .i64 j (G.ar .mul .i64 dir (G.cv .i64 a))) 0=false:=h7
      rw [ea,hG] at h7;exact of_decide_eq_false h7
     exact ⟨(G.ar .add .i64 j (Int.ofNat 1),W),⟨n+1,inc hG hj (by omega),h6,hW,same (by unfold shF;rw [if_neg (fun h=>h7 h.1)])⟩,mu hj (inc hG hj (by omega)) h6,by constructor<;>cbv<;>simp⟩
   ·have h6:L.length≤n:=by
     rw [hG,hj] at h6
     have h6:¬ (n:Int)<(Z.length:Int):=of_decide_eq_false h6
     omega
    refine hq _ _ ⟨_,_,rfl,rfl,?_,hz⟩
    rw [if_pos rfl]
    refine gu_ext (by rw [hW];simp) fun i hlt=>?_
    rw [hW] at hlt
    rw [hi5 i hlt,if_pos (by omega),shM_get hlt]
  ·have h5:¬ X.val (boolL M)<L.length:=by
    have h4:G.cmp .lss a (G.cv .u64 (G.lu L))=false:=h4
    rw [ecv,ha,hG] at h4
    have h4:¬ ((X.val (boolL M):Nat):Int)<(L.length:Int):=of_decide_eq_false h4
    omega
   have esh:shN L.length M=L.length:=by unfold shN;rw [if_neg h5]
   have eN:G.lu L=((shN L.length M:Nat):Int):=by rw [esh];exact hlu
   have nb:shN L.length M≤128:=by unfold shN;split<;>omega
   refine callQ hG [] (hfr L g nL) ⟨rfl,rfl,rfl⟩ ?_
   rintro _ _ ⟨f,rfl,rfl,hf⟩
   cbv
   refine call hG [] (fill_ok f (G.lu L) g hfw) ⟨rfl,rfl,rfl⟩ ?_
   rintro _ _ ⟨Z,z,rfl,rfl,hZ,hz⟩
   cbv
   refine okd hG (by kernel_rfl) ?_
   have hZl:Z.length=L.length:=by rw [hZ,List.length_replicate,hG];rfl
   have hZ2:∀ i:Nat,i<L.length→gu Z i=f:=fun i hi=>by
    rw [hZ];unfold gu;rw [Int.toNat_natCast,List.getElem?_replicate,if_pos (by rw [hG];exact hi)];rfl
   rw [←hf] at hq
   clear hZ
   refine lp hG (α:=Int×List Int) (fun p=>∃ n:Nat,p.1=(n:Int)∧n≤L.length∧p.2.length=L.length∧∀ i:Nat,i<L.length→gu p.2 i=if i<n then shF L dir (shN L.length M) f i else f) (fun p=>L.length-p.1.toNat) (fun s p=>(s.put (some 58) (.i .i64 p.1)).setO 6 (.u p.2)) (0,Z) ⟨0,rfl,Nat.zero_le _,hZl,by simpa using hZ2⟩ (by constructor<;>cbv<;>simp) ?_
   rintro ⟨j,W⟩ ⟨n,hj,hn,hW,hi5⟩
   have hW:W.length=L.length:=hW
   cbv
   have hj:j=(n:Int):=hj
   have hi5:∀ i:Nat,i<L.length→gu W i=if i<n then shF L dir (shN L.length M) f i else f:=hi5
   have same:shF L dir (shN L.length M) f n=f→∀ i:Nat,i<L.length→gu W i=if i<n+1 then shF L dir (shN L.length M) f i else f:=fun hs i hlt=>by
    rw [hi5 i hlt]
    by_cases h5:i<n
    ·rw [if_pos h5,if_pos (by omega)]
    ·rw [if_neg h5]
     by_cases h7:i=n
     ·rw [if_pos (by omega),h7,hs]
     ·rw [if_neg (by omega)]
   refine SX.ite hG (fun h6=>?_) (fun h6=>?_)
   ·have h6:n<L.length:=by
     rw [hG,hj] at h6
     have h6:(n:Int)<(Z.length:Int):=of_decide_eq_true h6
     omega
    have ea:G.ar .add .i64 j (G.ar .mul .i64 dir (G.lu L))=(n:Int)+dir*((shN L.length M:Nat):Int):=by
     rw [eN,hj]
     have e1:G.ar .mul .i64 dir ((shN L.length M:Nat):Int)=dir*((shN L.length M:Nat):Int):=by
      rw [hG];exact fwi (by rcases hdir with rfl | rfl<;>omega)
     rw [e1]
     exact addi hG (by rcases hdir with rfl | rfl<;>omega)
    refine SX.ite hG (fun h7=>?_) (fun h7=>?_)
    ·have h7:(n:Int)+dir*((shN L.length M:Nat):Int)≥0:=by
      have h7:G.cmp .geq (G.ar .add .i64 j (G.ar .mul .i64 dir (G.lu L))) 0=true:=h7
      rw [ea,hG] at h7;exact of_decide_eq_true h7
     refine SX.ite hG (fun h8=>?_) (fun h8=>?_)
     ·have h8:(n:Int)+dir*((shN L.length M:Nat):Int)<(L.length:Int):=by
       have h8:G.cmp .lss (G.ar .add .i64 j (G.ar .mul .i64 dir (G.lu L))) (G.lu L)=true:=h8
       rw [ea,hG] at h8;exact of_decide_eq_true h8
      have v1:G.ix (G.ar .add .i64 j (G.ar .mul .i64 dir (G.lu L))) (G.lu L):=by rw [ea,hG];exact ⟨h7,h8⟩
      have v2:G.ix j (G.lu W):=by rw [hG,hj];show 0≤(n:Int)∧(n:Int)<(W.length:Int);omega
      refine ⟨v1,v1,v2,v2,okd hG (by kernel_rfl) ?_⟩
      have ex:G.gu L (G.ar .add .i64 j (G.ar .mul .i64 dir (G.lu L)))=shF L dir (shN L.length M) f n:=by unfold shF;rw [if_pos ⟨h7,h8⟩,ea,hG];rfl
      have ek:G.su W j (G.gu L (G.ar .add .i64 j (G.ar .mul .i64 dir (G.lu L))))=W.set n (shF L dir (shN L.length M) f n):=by rw [ex,hG,hj];rfl
      have iv:∀ i:Nat,i<L.length→gu (G.su W j (G.gu L (G.ar .add .i64 j (G.ar .mul .i64 dir (G.lu L))))) i=if i<n+1 then shF L dir (shN L.length M) f i else f:=fun i hlt=>by
       rw [ek,gu_set (by omega)]
       split
       ·rename_i e;rw [e,if_pos (by omega)]
       ·rw [hi5 i hlt]
        by_cases h5:i<n
        ·rw [if_pos h5,if_pos (by omega)]
        ·rw [if_neg h5,if_neg (by omega)]
      have il:(G.su W j (G.gu L (G.ar .add .i64 j (G.ar .mul .i64 dir (G.lu L))))).length=L.length:=by rw [ek];simp [hW]
      exact ⟨(G.ar .add .i64 j (Int.ofNat 1),G.su W j (G.gu L (G.ar .add .i64 j (G.ar .mul .i64 dir (G.lu L))))),⟨n+1,inc hG hj (by omega),h6,il,iv⟩,mu hj (inc hG hj (by omega)) h6,by constructor<;>cbv<;>simp⟩
     ·have h8:¬ (n:Int)+dir*((shN L.length M:Nat):Int)<(L.length:Int):=by
       have h8:G.cmp .lss (G.ar .add .i64 j (G.ar .mul .i64 dir (G.lu L))) (G.lu L)=false:=h8
       rw [ea,hG] at h8;exact of_decide_eq_false h8
      exact ⟨(G.ar .add .i64 j (Int.ofNat 1),W),⟨n+1,inc hG hj (by omega),h6,hW,same (by unfold shF;rw [if_neg (fun h=>h8 h.2)])⟩,mu hj (inc hG hj (by omega)) h6,by constructor<;>cbv<;>simp⟩
    ·have h7:¬ (n:Int)+dir*((shN L.length M:Nat):Int)≥0:=by
      have h7:G.cmp .geq (G.ar .add .i64 j (G.ar .mul .i64 dir (G.lu L))) 0=false:=h7
      rw [ea,hG] at h7;exact of_decide_eq_false h7
     exact ⟨(G.ar .add .i64 j (Int.ofNat 1),W),⟨n+1,inc hG hj (by omega),h6,hW,same (by unfold shF;rw [if_neg (fun h=>h7 h.1)])⟩,mu hj (inc hG hj (by omega)) h6,by constructor<;>cbv<;>simp⟩
   ·have h6:L.length≤n:=by
     rw [hG,hj] at h6
     have h6:¬ (n:Int)<(Z.length:Int):=of_decide_eq_false h6
     omega
    refine hq _ _ ⟨_,_,rfl,rfl,?_,hz⟩
    rw [if_pos rfl]
    refine gu_ext (by rw [hW];simp) fun i hlt=>?_
    rw [hW] at hlt
    rw [hi5 i hlt,if_pos (by omega),shM_get hlt]
 ·have h3:¬ X.val (boolL M)<2^64:=of_decide_eq_false (by rw [←hb];exact h2)
  have esh:shN L.length M=L.length:=by unfold shN;rw [if_neg (by omega)]
  have eN:G.lu L=((shN L.length M:Nat):Int):=by rw [esh];exact hlu
  have nb:shN L.length M≤128:=by unfold shN;split<;>omega
  refine callQ hG [] (hfr L g nL) ⟨rfl,rfl,rfl⟩ ?_
  rintro _ _ ⟨f,rfl,rfl,hf⟩
  cbv
  refine call hG [] (fill_ok f (G.lu L) g hfw) ⟨rfl,rfl,rfl⟩ ?_
  rintro _ _ ⟨Z,z,rfl,rfl,hZ,hz⟩
  cbv
  refine okd hG (by kernel_rfl) ?_
  have hZl:Z.length=L.length:=by rw [hZ,List.length_replicate,hG];rfl
  have hZ2:∀ i:Nat,i<L.length→gu Z i=f:=fun i hi=>by
   rw [hZ];unfold gu;rw [Int.toNat_natCast,List.getElem?_replicate,if_pos (by rw [hG];exact hi)];rfl
  rw [←hf] at hq
  clear hZ
  refine lp hG (α:=Int×List Int) (fun p=>∃ n:Nat,p.1=(n:Int)∧n≤L.length∧p.2.length=L.length∧∀ i:Nat,i<L.length→gu p.2 i=if i<n then shF L dir (shN L.length M) f i else f) (fun p=>L.length-p.1.toNat) (fun s p=>(s.put (some 58) (.i .i64 p.1)).setO 6 (.u p.2)) (0,Z) ⟨0,rfl,Nat.zero_le _,hZl,by simpa using hZ2⟩ (by constructor<;>cbv<;>simp) ?_
  rintro ⟨j,W⟩ ⟨n,hj,hn,hW,hi5⟩
  have hW:W.length=L.length:=hW
  cbv
  have hj:j=(n:Int):=hj
  have hi5:∀ i:Nat,i<L.length→gu W i=if i<n then shF L dir (shN L.length M) f i else f:=hi5
  have same:shF L dir (shN L.length M) f n=f→∀ i:Nat,i<L.length→gu W i=if i<n+1 then shF L dir (shN L.length M) f i else f:=fun hs i hlt=>by
   rw [hi5 i hlt]
   by_cases h5:i<n
   ·rw [if_pos h5,if_pos (by omega)]
   ·rw [if_neg h5]
    by_cases h7:i=n
    ·rw [if_pos (by omega),h7,hs]
    ·rw [if_neg (by omega)]
  refine SX.ite hG (fun h6=>?_) (fun h6=>?_)
  ·have h6:n<L.length:=by
    rw [hG,hj] at h6
    have h6:(n:Int)<(Z.length:Int):=of_decide_eq_true h6
    omega
   have ea:G.ar .add .i64 j (G.ar .mul .i64 dir (G.lu L))=(n:Int)+dir*((shN L.length M:Nat):Int):=by
    rw [eN,hj]
    have e1:G.ar .mul .i64 dir ((shN L.length M:Nat):Int)=dir*((shN L.length M:Nat):Int):=by
     rw [hG];exact fwi (by rcases hdir with rfl | rfl<;>omega)
    rw [e1]
    exact addi hG (by rcases hdir with rfl | rfl<;>omega)
   refine SX.ite hG (fun h7=>?_) (fun h7=>?_)
   ·have h7:(n:Int)+dir*((shN L.length M:Nat):Int)≥0:=by
     have h7:G.cmp .geq (G.ar .add .i64 j (G.ar .mul .i64 dir (G.lu L))) 0=true:=h7
     rw [ea,hG] at h7;exact of_decide_eq_true h7
    refine SX.ite hG (fun h8=>?_) (fun h8=>?_)
    ·have h8:(n:Int)+dir*((shN L.length M:Nat):Int)<(L.length:Int):=by
      have h8:G.cmp .lss (G.ar .add .i64 j (G.ar .mul .i64 dir (G.lu L))) (G.lu L)=true:=h8
      rw [ea,hG] at h8;exact of_decide_eq_true h8
     have v1:G.ix (G.ar .add .i64 j (G.ar .mul .i64 dir (G.lu L))) (G.lu L):=by rw [ea,hG];exact ⟨h7,h8⟩
     have v2:G.ix j (G.lu W):=by rw [hG,hj];show 0≤(n:Int)∧(n:Int)<(W.length:Int);omega
     refine ⟨v1,v1,v2,v2,okd hG (by kernel_rfl) ?_⟩
     have ex:G.gu L (G.ar .add .i64 j (G.ar .mul .i64 dir (G.lu L)))=shF L dir (shN L.length M) f n:=by unfold shF;rw [if_pos ⟨h7,h8⟩,ea,hG];rfl
     have ek:G.su W j (G.gu L (G.ar .add .i64 j (G.ar .mul .i64 dir (G.lu L))))=W.set n (shF L dir (shN L.length M) f n):=by rw [ex,hG,hj];rfl
     have iv:∀ i:Nat,i<L.length→gu (G.su W j (G.gu L (G.ar .add .i64 j (G.ar .mul .i64 dir (G.lu L))))) i=if i<n+1 then shF L dir (shN L.length M) f i else f:=fun i hlt=>by
      rw [ek,gu_set (by omega)]
      split
      ·rename_i e;rw [e,if_pos (by omega)]
      ·rw [hi5 i hlt]
       by_cases h5:i<n
       ·rw [if_pos h5,if_pos (by omega)]
       ·rw [if_neg h5,if_neg (by omega)]
     have il:(G.su W j (G.gu L (G.ar .add .i64 j (G.ar .mul .i64 dir (G.lu L))))).length=L.length:=by rw [ek];simp [hW]
     exact ⟨(G.ar .add .i64 j (Int.ofNat 1),G.su W j (G.gu L (G.ar .add .i64 j (G.ar .mul .i64 dir (G.lu L))))),⟨n+1,inc hG hj (by omega),h6,il,iv⟩,mu hj (inc hG hj (by omega)) h6,by constructor<;>cbv<;>simp⟩
    ·have h8:¬ (n:Int)+dir*((shN L.length M:Nat):Int)<(L.length:Int):=by
      have h8:G.cmp .lss (G.ar .add .i64 j (G.ar .mul .i64 dir (G.lu L))) (G.lu L)=false:=h8
      rw [ea,hG] at h8;exact of_decide_eq_false h8
     exact ⟨(G.ar .add .i64 j (Int.ofNat 1),W),⟨n+1,inc hG hj (by omega),h6,hW,same (by unfold shF;rw [if_neg (fun h=>h8 h.2)])⟩,mu hj (inc hG hj (by omega)) h6,by constructor<;>cbv<;>simp⟩
   ·have h7:¬ (n:Int)+dir*((shN L.length M:Nat):Int)≥0:=by
     have h7:G.cmp .geq (G.ar .add .i64 j (G.ar .mul .i64 dir (G.lu L))) 0=false:=h7
     rw [ea,hG] at h7;exact of_decide_eq_false h7
    exact ⟨(G.ar .add .i64 j (Int.ofNat 1),W),⟨n+1,inc hG hj (by omega),h6,hW,same (by unfold shF;rw [if_neg (fun h=>h7 h.1)])⟩,mu hj (inc hG hj (by omega)) h6,by constructor<;>cbv<;>simp⟩
  ·have h6:L.length≤n:=by
    rw [hG,hj] at h6
    have h6:¬ (n:Int)<(Z.length:Int):=of_decide_eq_false h6
    omega
   refine hq _ _ ⟨_,_,rfl,rfl,?_,hz⟩
   rw [if_pos rfl]
   refine gu_ext (by rw [hW];simp) fun i hlt=>?_
   rw [hW] at hlt
   rw [hi5 i hlt,if_pos (by omega),shM_get hlt]
end Go.Proofs.YtdgbdkfoeaollaaGreatDoor.V
