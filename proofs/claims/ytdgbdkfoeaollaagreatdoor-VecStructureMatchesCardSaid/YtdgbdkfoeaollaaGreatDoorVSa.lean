/- The reference: FromInt, Unknown, Resize, Slice and Put; vec.Unknown. -/
import Derived.Test.YtdgbdkfoeaollaaGreatDoorVZe
import Derived.Test.YtdgbdkfoeaollaaGreatDoorVA
import Derived.Test.YtdgbdkfoeaollaaGreatDoorALe
section
set_option linter.unusedSimpArgs false
set_option linter.unusedVariables false
set_option maxRecDepth 100000
namespace Go.Proofs.YtdgbdkfoeaollaaGreatDoor.V
open Go Go.AL Go.SX
theorem rwindow_ok (hi lo:Int) (h1:I64 hi) (h2:I64 lo):FvC CX TB (.f 147 [] []) [.i .i64 hi,.i .i64 lo] [] (RI .i64 (win hi lo)):=by
 unfold I64 at h1 h2
 refine fn_ok rfl rfl fun B D G hG q hq=>?_
 cbv
 refine SX.ite hG (fun h3=>?_) (fun h3=>?_)
 ·have h4:hi<lo:=by rw [hG] at h3;exact of_decide_eq_true h3
  exact hq _ _ ⟨_,rfl,rfl,by rw [win,if_pos h4];rfl⟩
 have h4:¬ hi<lo:=by rw [hG] at h3;exact of_decide_eq_false h3
 have e:G.ar .sub .u64 (G.cv .u64 hi) (G.cv .u64 lo)=hi-lo:=by
  subst hG
  show fwrap .u64 (fwrap .u64 hi-fwrap .u64 lo)=_
  rw [fwu_mod,fwu_mod,fwu_mod]
  omega
 refine SX.ite hG (fun h5=>?_) (fun h5=>?_)
 ·have h5:G.cmp .geq (G.ar .sub .u64 (G.cv .u64 hi) (G.cv .u64 lo)) 128=true:=h5
  have h6:hi-lo≥128:=by rw [e,hG] at h5;exact of_decide_eq_true h5
  exact hq _ _ ⟨_,rfl,rfl,by rw [win,if_neg h4,if_pos (by omega)];rfl⟩
 ·have h5:G.cmp .geq (G.ar .sub .u64 (G.cv .u64 hi) (G.cv .u64 lo)) 128=false:=h5
  have h6:¬ hi-lo≥128:=by rw [e,hG] at h5;exact of_decide_eq_false h5
  exact hq _ _ ⟨_,rfl,rfl,by rw [win,if_neg h4,if_neg (by omega)];rfl⟩
theorem okw_1 {B:AH} {D:Bs} {G:Sg} (hG:G=std CX TB B D) {w:Int} (h:G.cmp .lss w 1=true):okW w=false:=by
 rw [hG] at h
 have h:w<1:=of_decide_eq_true h
 unfold okW;rw [decide_eq_false (by omega)];rfl
theorem okw_2 {B:AH} {D:Bs} {G:Sg} (hG:G=std CX TB B D) {w:Int} (h:G.cmp .gtr w 128=true):okW w=false:=by
 rw [hG] at h
 have h:w > 128:=of_decide_eq_true h
 unfold okW;rw [decide_eq_false (show ¬ w≤128 by omega),Bool.and_false]
theorem okw_3 {B:AH} {D:Bs} {G:Sg} (hG:G=std CX TB B D) {w:Int} (h1:G.cmp .lss w 1=false) (h2:G.cmp .gtr w 128=false):okW w=true∧1≤w∧w≤128:=by
 rw [hG] at h1 h2
 have h1:¬ w<1:=of_decide_eq_false h1
 have h2:¬ w > 128:=of_decide_eq_false h2
 exact ⟨by unfold okW;rw [decide_eq_true (by omega),decide_eq_true (by omega)];rfl,by omega,by omega⟩
theorem runk_ok (w:Int) (s:Bool):FvC CX TB (.f 74 [] []) [.i .i64 w,.b s] [] (RE (okW w) (List.replicate w.toNat 2) s 12):=by
 refine fn_ok rfl rfl fun B D G hG q hq=>?_
 cbv
 refine SX.ite hG (fun h1=>?_) (fun h1=>?_)
 ·exact hq _ _ (.inr ⟨okw_1 hG h1,_,_,rfl,rfl,rfl,rfl⟩)
 refine SX.ite hG (fun h2=>?_) (fun h2=>?_)
 ·exact hq _ _ (.inr ⟨okw_2 hG h2,_,_,rfl,rfl,rfl,rfl⟩)
 obtain ⟨e,w1,w2⟩:=okw_3 hG h1 h2
 refine call hG [] (rfill_ok (.ofNat 2) w s (by omega)) ⟨rfl,rfl,rfl⟩ ?_
 rintro _ _ ⟨Z,z,rfl,rfl,hZ,hz⟩
 cbv
 exact hq _ _ (.inl ⟨e,_,_,_,rfl,rfl,hZ,hz,rfl⟩)
theorem vunk_ok (w:Int) (s:Bool):FvC CX TB (.f 21 [] []) [.i .i64 w,.b s] [] (RE (okW w) (List.replicate w.toNat 2) s 12):=by
 refine fn_ok rfl rfl fun B D G hG q hq=>?_
 cbv
 refine call hG [] (width_ok w) ⟨rfl,rfl,rfl⟩ ?_
 rintro _ _ ⟨c,rfl,rfl,hc⟩
 cbv
 refine SX.ite hG (fun h1=>?_) (fun h1=>?_)
 ·have e:c=false:=by rw [hG] at h1;simpa [std] using h1
  exact hq _ _ (.inr ⟨by rw [←hc];exact e,_,_,rfl,rfl,rfl,rfl⟩)
 have e:c=true:=by rw [hG] at h1;simpa [std] using h1
 have hw:1≤w∧w≤128:=by
  rw [hc] at e
  unfold okW at e
  simpa using e
 refine call hG [] (fill_ok (.ofNat 2) w s (by omega)) ⟨rfl,rfl,rfl⟩ ?_
 rintro _ _ ⟨Z,z,rfl,rfl,hZ,hz⟩
 cbv
 exact hq _ _ (.inl ⟨by rw [←hc];exact e,_,_,_,rfl,rfl,hZ,hz,rfl⟩)
theorem rbFromInt_ok (n:Int) (w:Nat) (W:Int) (hW:W=(w:Int)) (hw:w≤128):FvC CX TB (.f 144 [] []) [.i .i64 n,.i .i64 W] [] (fun r ro=>∃ l e,r=.t [.bl l,.i .i64 e]∧ro=[]∧l=X.ofI w n∧e=0):=
 br_any fun H vs hd=>by
  obtain ⟨v1,ws,rfl,h1,v2,ws',rfl,h2,rfl⟩:=hd
  subst h1 h2 hW
  exact (X.rFromInt_any ext0V).mono fun r H' ⟨h3,h4⟩=>by
   rw [if_neg (by omega)] at h4
   obtain ⟨v,rfl,h5⟩:=h4
   rw [Int.toNat_natCast] at h5
   exact ⟨h3,_,⟨_,_,rfl,rfl,rfl,rfl⟩,_,rfl,_,_,rfl,isR_rdS h5,_,_,rfl,rfl,rfl⟩
theorem rfromInt_ok (n w:Int) (s:Bool):FvC CX TB (.f 73 [] []) [.i .i64 n,.i .i64 w,.b s] [] (RE (okW w) (intL (X.ofI w.toNat n)) s 12):=by
 refine fn_ok rfl rfl fun B D G hG q hq=>?_
 cbv
 refine SX.ite hG (fun h1=>?_) (fun h1=>?_)
 ·exact hq _ _ (.inr ⟨okw_1 hG h1,_,_,rfl,rfl,rfl,rfl⟩)
 refine SX.ite hG (fun h2=>?_) (fun h2=>?_)
 ·exact hq _ _ (.inr ⟨okw_2 hG h2,_,_,rfl,rfl,rfl,rfl⟩)
 obtain ⟨e,w1,w2⟩:=okw_3 hG h1 h2
 have hW:w=((w.toNat:Nat):Int):=by omega
 refine call hG [] (rbFromInt_ok n w.toNat w hW (by omega)) ⟨rfl,rfl,rfl⟩ ?_
 rintro _ _ ⟨l,z,rfl,rfl,hl,hz⟩
 cbv
 refine call hG [] (rfromBools_ok l s (by rw [hl,X.ofI_length];omega)) ⟨rfl,rfl,rfl⟩ ?_
 rintro _ _ ⟨M,t,rfl,rfl,hM,ht⟩
 cbv
 exact hq _ _ (.inl ⟨e,_,_,_,rfl,rfl,by rw [hM,hl],ht,rfl⟩)
theorem rresize_ok (l:List Int) (s:Bool) (w:Int) (hl:l.length<2^15) (hb:Byt l):FvC CX TB (.f 75 [] []) [.a [.u l,.b s],.i .i64 w] [] (RE (okW w) (rsz (nB l) (nS l s) w.toNat) (nS l s) 12):=by
 have nv:=nB_nv hb
 refine fn_ok rfl rfl fun B D G hG q hq=>?_
 cbv
 refine SX.ite hG (fun h1=>?_) (fun h1=>?_)
 ·exact hq _ _ (.inr ⟨okw_1 hG h1,_,_,rfl,rfl,rfl,rfl⟩)
 refine SX.ite hG (fun h2=>?_) (fun h2=>?_)
 ·exact hq _ _ (.inr ⟨okw_2 hG h2,_,_,rfl,rfl,rfl,rfl⟩)
 obtain ⟨e,w1,w2⟩:=okw_3 hG h1 h2
 refine call hG [] (rnorm_ok l s (by omega)) ⟨rfl,rfl,rfl⟩ ?_
 rintro _ _ ⟨M,t,rfl,rfl,hM,ht⟩
 cbv
 have nvM:NV M:=by rw [hM];exact nv
 have hlen:=nvM.len
 refine call hG [] (rfit_ok M t w nvM.ne (by omega) (by omega)) ⟨rfl,rfl,rfl⟩ ?_
 rintro _ _ ⟨Z,z,rfl,rfl,hZ,hz⟩
 cbv
 exact hq _ _ (.inl ⟨e,_,_,_,rfl,rfl,by rw [hZ,hM,ht],by rw [hz,ht],rfl⟩)
theorem slc_app {M:List Int} {lo:Int} {k:Nat}:(List.range (k+1)).map (slF M lo)=(List.range k).map (slF M lo)++[slF M lo k]:=by
 rw [List.range_succ,List.map_append];rfl
theorem rslice_ok (l:List Int) (s:Bool) (hi lo:Int) (hl:l.length<2^15) (hb:Byt l) (h1:I64 hi) (h2:I64 lo):FvC CX TB (.f 78 [] []) [.a [.u l,.b s],.i .i64 hi,.i .i64 lo] [] (RE (decide (win hi lo=0)) (slc (nB l) hi lo) false (win hi lo)):=by
 have nv:=nB_nv hb
 refine fn_ok rfl rfl fun B D G hG q hq=>?_
 cbv
 refine call hG [] (rwindow_ok hi lo h1 h2) ⟨rfl,rfl,rfl⟩ ?_
 rintro _ _ ⟨c,rfl,rfl,hc⟩
 cbv
 refine SX.ite hG (fun h3=>?_) (fun h3=>?_)
 ·have h4:¬ c=0:=by rw [hG] at h3;simpa [std,cmpS] using h3
  exact hq _ _ (.inr ⟨by rw [←hc];exact decide_eq_false h4,_,_,rfl,rfl,rfl,hc⟩)
 have h4:c=0:=by rw [hG] at h3;simpa [std,cmpS] using h3
 have hw:=win_zero (by rw [←hc];exact h4)
 unfold I64 at h1 h2
 obtain ⟨Z,hZ⟩:∃ Z:Nat,hi-lo+1=(Z:Int):=⟨(hi-lo+1).toNat,by omega⟩
 have hZ1:1≤Z∧Z≤128:=by omega
 have hZi:∀ k:Nat,k<Z→I64 (lo+(k:Int)):=fun k hk=>by unfold I64;omega
 have hZn:(hi-lo+1).toNat=Z:=by omega
 have e1:G.ar .sub .i64 hi lo=(Z:Int)-1:=by rw [subw hG (by unfold I64;omega)];omega
 refine call hG [] (rnorm_ok l s (by omega)) ⟨rfl,rfl,rfl⟩ ?_
 rintro _ _ ⟨M,t,rfl,rfl,hM,ht⟩
 cbv
 have nvM:NV M:=by rw [hM];exact nv
 have hlen:=nvM.len
 refine lp_regB hG 3 0 (.u []) rfl rfl ?_
 refine lp hG (α:=Int×List Int) (fun p=>∃ n:Nat,p.1=(n:Int)∧n≤Z∧p.2=(List.range n).map (slF M lo)) (fun p=>Z-p.1.toNat) (fun s p=>(s.put (some 10) (.i .i64 p.1)).setO 4 (.u p.2)) (0,[]) ⟨0,rfl,Nat.zero_le _,rfl⟩ (by constructor<;>cbv<;>simp) ?_
 rintro ⟨j,L⟩ ⟨n,hj,hn,hL⟩
 have hL:L=(List.range n).map (slF M lo):=hL
 have hlL:L.length=n:=by rw [hL,List.length_map,List.length_range]
 cbv
 have hj:j=(n:Int):=hj
 have hap:∀ x:Int,G.ap (G.lu L) (G.lu [x]):=fun x=>by subst hG;simp only [std];simp;omega
 have eap:∀ x:Int,x=slF M lo n→G.apu L [x]=(List.range (n+1)).map (slF M lo):=fun x hx=>by rw [slc_app,←hL,←hx,hG];rfl
 refine SX.ite hG (fun h6=>?_) (fun h6=>?_)
 ·have h6:n<Z:=by
   have h6:G.cmp .leq j (G.ar .sub .i64 hi lo)=true:=h6
   rw [e1,hG,hj] at h6
   have h6:(n:Int)≤(Z:Int)-1:=of_decide_eq_true h6
   omega
  have ea:G.ar .add .i64 lo j=lo+(n:Int):=by rw [hj];exact addw hG (hZi n h6)
  refine SX.ite hG (fun h7=>?_) (fun h7=>?_)
  ·have h7:lo+(n:Int)≥0:=by
    have h7:G.cmp .geq (G.ar .add .i64 lo j) 0=true:=h7
    rw [ea,hG] at h7;exact of_decide_eq_true h7
   refine SX.ite hG (fun h8=>?_) (fun h8=>?_)
   ·have h8:lo+(n:Int)<(M.length:Int):=by
     have h8:G.cmp .lss (G.ar .add .i64 lo j) (G.lu M)=true:=h8
     rw [ea,hG] at h8;exact of_decide_eq_true h8
    have v1:G.ix (G.ar .add .i64 lo j) (G.lu M):=by rw [ea,hG];exact ⟨h7,h8⟩
    have ex:G.gu M (G.ar .add .i64 lo j)=slF M lo n:=by unfold slF;rw [if_pos ⟨h7,h8⟩,ea,hG];rfl
    refine ⟨v1,v1,hap _,okd hG (by kernel_rfl) ?_⟩
    exact ⟨(G.ar .add .i64 j (Int.ofNat 1),G.apu L [G.gu M (G.ar .add .i64 lo j)]),⟨n+1,inc hG hj (by omega),h6,eap _ ex⟩,mu hj (inc hG hj (by omega)) h6,by constructor<;>cbv<;>simp⟩
   ·have h8:¬ lo+(n:Int)<(M.length:Int):=by
     have h8:G.cmp .lss (G.ar .add .i64 lo j) (G.lu M)=false:=h8
     rw [ea,hG] at h8;exact of_decide_eq_false h8
    refine ⟨hap _,?_⟩
    exact ⟨(G.ar .add .i64 j (Int.ofNat 1),G.apu L [Int.ofNat 2]),⟨n+1,inc hG hj (by omega),h6,eap _ (by unfold slF;rw [if_neg (by omega)];rfl)⟩,mu hj (inc hG hj (by omega)) h6,by constructor<;>cbv<;>simp⟩
  ·have h7:¬ lo+(n:Int)≥0:=by
    have h7:G.cmp .geq (G.ar .add .i64 lo j) 0=false:=h7
    rw [ea,hG] at h7;exact of_decide_eq_false h7
   refine ⟨hap _,?_⟩
   exact ⟨(G.ar .add .i64 j (Int.ofNat 1),G.apu L [Int.ofNat 2]),⟨n+1,inc hG hj (by omega),h6,eap _ (by unfold slF;rw [if_neg (by omega)];rfl)⟩,mu hj (inc hG hj (by omega)) h6,by constructor<;>cbv<;>simp⟩
 ·have h6:Z≤n:=by
   have h6:G.cmp .leq j (G.ar .sub .i64 hi lo)=false:=h6
   rw [e1,hG,hj] at h6
   have h6:¬ (n:Int)≤(Z:Int)-1:=of_decide_eq_false h6
   omega
  refine hq _ _ (.inl ⟨by rw [←hc];exact decide_eq_true h4,_,_,_,rfl,rfl,?_,rfl,rfl⟩)
  rw [←hM,hL,show n=Z by omega]
  unfold slc
  rw [hZn]
theorem rput_ok (l m:List Int) (s t:Bool) (hi lo:Int) (hl:l.length<2^15) (hm:m.length<2^15) (bl:Byt l) (bm:Byt m) (h1:I64 hi) (h2:I64 lo):FvC CX TB (.f 79 [] []) [.a [.u l,.b s],.i .i64 hi,.i .i64 lo,.a [.u m,.b t]] [] (RE (decide (win hi lo=0)) (putL (nB l) lo (rsz (nB m) (nS m t) (hi-lo+1).toNat)) (nS l s) (win hi lo)):=by
 have nvl:=nB_nv bl
 have nvm:=nB_nv bm
 refine fn_ok rfl rfl fun B D G hG q hq=>?_
 cbv
 refine call hG [] (rwindow_ok hi lo h1 h2) ⟨rfl,rfl,rfl⟩ ?_
 rintro _ _ ⟨c,rfl,rfl,hc⟩
 cbv
 refine SX.ite hG (fun h3=>?_) (fun h3=>?_)
 ·have h4:¬ c=0:=by rw [hG] at h3;simpa [std,cmpS] using h3
  exact hq _ _ (.inr ⟨by rw [←hc];exact decide_eq_false h4,_,_,rfl,rfl,rfl,hc⟩)
 have h4:c=0:=by rw [hG] at h3;simpa [std,cmpS] using h3
 have hw:=win_zero (by rw [←hc];exact h4)
 unfold I64 at h1 h2
 obtain ⟨Z,hZ⟩:∃ Z:Nat,hi-lo+1=(Z:Int):=⟨(hi-lo+1).toNat,by omega⟩
 have hZ1:1≤Z∧Z≤128:=by omega
 have hZi:∀ k:Nat,k<Z→I64 (lo+(k:Int)):=fun k hk=>by unfold I64;omega
 have hZn:(hi-lo+1).toNat=Z:=by omega
 rw [hZn] at hq
 have e0:G.ar .sub .i64 hi lo=(Z:Int)-1:=by rw [subw hG (by unfold I64;omega)];omega
 have e1:G.ar .add .i64 (G.ar .sub .i64 hi lo) (Int.ofNat 1)=(Z:Int):=by
  rw [subw hG (by unfold I64;omega),addw hG (by unfold I64;show _≤hi-lo+1∧hi-lo+1<_;omega)]
  exact hZ
 refine call hG [] (rnorm_ok l s (by omega)) ⟨rfl,rfl,rfl⟩ ?_
 rintro _ _ ⟨A,g1,rfl,rfl,hA,hg1⟩
 cbv
 have nvA:NV A:=by rw [hA];exact nvl
 have lenA:=nvA.len
 refine call hG [] (rnorm_ok m t (by omega)) ⟨rfl,rfl,rfl⟩ ?_
 rintro _ _ ⟨M,g2,rfl,rfl,hM,hg2⟩
 cbv
 have nvM:NV M:=by rw [hM];exact nvm
 have lenM:=nvM.len
 refine call hG [] (rfit_ok M g2 (G.ar .add .i64 (G.ar .sub .i64 hi lo) (Int.ofNat 1)) nvM.ne (by omega) (by rw [e1];omega)) ⟨rfl,rfl,rfl⟩ ?_
 rintro _ _ ⟨F,g3,rfl,rfl,hF,hg3⟩
 cbv
 rw [e1,Int.toNat_natCast] at hF
 have hFl:F.length=Z:=by rw [hF,rsz_len]
 refine lp hG (α:=Int×List Int) (fun p=>∃ n:Nat,p.1=(n:Int)∧n≤Z∧p.2.length=A.length∧∀ i:Nat,i<A.length→gu p.2 i=ptF A lo F n i) (fun p=>Z-p.1.toNat) (fun s p=>(s.put (some 11) (.i .i64 p.1)).setO 3 (.u p.2)) (0,A) ⟨0,rfl,Nat.zero_le _,rfl,fun i hi=>by unfold ptF;rw [if_neg (by omega)]⟩ (by constructor<;>cbv<;>simp) ?_
 rintro ⟨j,L⟩ ⟨n,hj,hn,hL,hi5⟩
 have hL:L.length=A.length:=hL
 cbv
 have hj:j=(n:Int):=hj
 have hi5:∀ i:Nat,i<A.length→gu L i=ptF A lo F n i:=hi5
 refine SX.ite hG (fun h6=>?_) (fun h6=>?_)
 ·have h6:n<Z:=by
   have h6:G.cmp .leq j (G.ar .sub .i64 hi lo)=true:=h6
   rw [e0,hG,hj] at h6
   have h6:(n:Int)≤(Z:Int)-1:=of_decide_eq_true h6
   omega
  have v1:G.ix j (G.lu F):=by rw [hG,hj];show 0≤(n:Int)∧(n:Int)<(F.length:Int);omega
  have ea:G.ar .add .i64 lo j=lo+(n:Int):=by rw [hj];exact addw hG (hZi n h6)
  have same:¬ (0≤lo+(n:Int)∧lo+(n:Int)<(A.length:Int))→∀ i:Nat,i<A.length→gu L i=ptF A lo F (n+1) i:=fun h i hlt=>by
   rw [hi5 i hlt]
   unfold ptF
   by_cases h5:lo≤(i:Int)∧(i:Int)<lo+(n:Int)
   ·rw [if_pos h5,if_pos (by omega)]
   ·rw [if_neg h5,if_neg (by omega)]
  refine SX.ite hG (fun h7=>?_) (fun h7=>?_)
  ·have h7:lo+(n:Int)≥0:=by
    have h7:G.cmp .geq (G.ar .add .i64 lo j) 0=true:=h7
    rw [ea,hG] at h7;exact of_decide_eq_true h7
   refine SX.ite hG (fun h8=>?_) (fun h8=>?_)
   ·have h8:lo+(n:Int)<(A.length:Int):=by
     have h8:G.cmp .lss (G.ar .add .i64 lo j) (G.lu L)=true:=h8
     rw [ea,hG] at h8
     have h8:lo+(n:Int)<(L.length:Int):=of_decide_eq_true h8
     omega
    have v2:G.ix (G.ar .add .i64 lo j) (G.lu L):=by rw [ea,hG];show 0≤lo+(n:Int)∧lo+(n:Int)<(L.length:Int);omega
    refine ⟨v1,v1,v2,v2,okd hG (by kernel_rfl) ?_⟩
    obtain ⟨k,hk⟩:∃ k:Nat,lo+(n:Int)=(k:Int):=⟨(lo+(n:Int)).toNat,by omega⟩
    have hkA:k<A.length:=by omega
    have ek:G.su L (G.ar .add .i64 lo j) (G.gu F j)=L.set k (gu F n):=by rw [ea,hk,hj,hG];rfl
    have il:(G.su L (G.ar .add .i64 lo j) (G.gu F j)).length=A.length:=by rw [ek];simp [hL]
    have iv:∀ i:Nat,i<A.length→gu (G.su L (G.ar .add .i64 lo j) (G.gu F j)) i=ptF A lo F (n+1) i:=fun i hlt=>by
     rw [ek,gu_set (by omega)]
     split
     ·rename_i e
      unfold ptF
      rw [if_pos (by omega)]
      congr 1
      omega
     ·rename_i e
      rw [hi5 i hlt]
      unfold ptF
      by_cases h5:lo≤(i:Int)∧(i:Int)<lo+(n:Int)
      ·rw [if_pos h5,if_pos (by omega)]
      ·rw [if_neg h5,if_neg (by omega)]
    exact ⟨(G.ar .add .i64 j (Int.ofNat 1),G.su L (G.ar .add .i64 lo j) (G.gu F j)),⟨n+1,inc hG hj (by omega),h6,il,iv⟩,mu hj (inc hG hj (by omega)) h6,by constructor<;>cbv<;>simp⟩
   ·have h8:¬ lo+(n:Int)<(A.length:Int):=by
     have h8:G.cmp .lss (G.ar .add .i64 lo j) (G.lu L)=false:=h8
     rw [ea,hG] at h8
     have h8:¬ lo+(n:Int)<(L.length:Int):=of_decide_eq_false h8
     omega
    exact ⟨(G.ar .add .i64 j (Int.ofNat 1),L),⟨n+1,inc hG hj (by omega),h6,hL,same (by omega)⟩,mu hj (inc hG hj (by omega)) h6,by constructor<;>cbv<;>simp⟩
  ·have h7:¬ lo+(n:Int)≥0:=by
    have h7:G.cmp .geq (G.ar .add .i64 lo j) 0=false:=h7
    rw [ea,hG] at h7;exact of_decide_eq_false h7
   exact ⟨(G.ar .add .i64 j (Int.ofNat 1),L),⟨n+1,inc hG hj (by omega),h6,hL,same (by omega)⟩,mu hj (inc hG hj (by omega)) h6,by constructor<;>cbv<;>simp⟩
 ·have h6:Z≤n:=by
   have h6:G.cmp .leq j (G.ar .sub .i64 hi lo)=false:=h6
   rw [e0,hG,hj] at h6
   have h6:¬ (n:Int)≤(Z:Int)-1:=of_decide_eq_false h6
   omega
  have hnZ:n=F.length:=by omega
  refine hq _ _ (.inl ⟨by rw [←hc];exact decide_eq_true h4,_,_,_,rfl,rfl,?_,hg1,rfl⟩)
  rw [←hA,←hM,←hg2,←hF]
  refine gu_ext (by rw [hL,putL_len]) fun i hlt=>?_
  rw [hL] at hlt
  rw [hi5 i hlt,putL_get hlt,hnZ]
end Go.Proofs.YtdgbdkfoeaollaaGreatDoor.V
end
section
set_option linter.unusedSimpArgs false
set_option linter.unusedVariables false
set_option maxRecDepth 100000
namespace Go.Proofs.YtdgbdkfoeaollaaGreatDoor.V
open Go Go.AL Go.SX Go.Proofs.YtdgbdkfoeaollaaGreatDoor.V0
section
variable {m m':List Value} {H H':AH} {E E':Env} {tb:List (List Int)} {B:AH} {D:Bs} {s s':SX.St}
theorem sat_pt (hs:Sat tb B D m s E H) {t:Nat} {v:Value} (ht:s.env.get t=none):Sat tb B D m s (AL.put E (some t) v) H:=
 hs.reEnv (e:=s.env) fun t' x hx=>by
  obtain ⟨w,e1,e2⟩:=hs.env t' x hx
  refine ⟨w,?_,e2⟩
  rw [get_putS,if_neg (by intro e;subst e;rw [ht] at hx;cases hx)];exact e1
theorem sat_fg {e:T SV} {o:List SX.Obj} {t:Nat} {x:SV} (hs:Sat tb B D m ⟨e.set t x,o⟩ E H) (ht:e.get t=none):Sat tb B D m ⟨e,o⟩ E H:=
 hs.reEnv (e:=e) fun t' y hy=>hs.env t' y (by
  show (e.set t x).get t'=some y
  rw [T.get_set,if_neg (by intro h;subst h;rw [ht] at hy;cases hy)];exact hy)
end
def stC (v:Value) (j:Int) (out:List Int):SX.St:=⟨(((T.nil.set 0 (SV.v v)).set 2 (.o 0 0)).set 4 (.o 1 0)).set 5 (.i .i64 j),[.x [.nil,.kb false],.x [.s 2,.kb false],.u out]⟩
def stC4 (v:Value) (j:Int) (out:List Int):SX.St:=⟨(((((((T.nil.set 0 (SV.v v)).set 2 (.o 0 0)).set 4 (.o 1 0)).set 5 (.i .i64 j)).set 17 (.o 1 0)).set 18 (.s 2)).set 19 (.v v)).set 20 (.i .i64 j),[.x [.nil,.kb false],.x [.s 2,.kb false],.u out]⟩
def stCE:SX.St:=⟨(T.nil.set 2 (SV.o 0 0)).set 3 (.n .i64 12),[.x [.nil,.kb false]]⟩
def rcB:IC:=match dropC 3 IR.fi76.code with
 | .seq (.seq _ (.block _ (.loop b))) _=>b
 | _=>.skip
theorem rc_loop {B:AH} {d:Nat→Prop} {L:List (List Int×Bool)} {v:Value} (hv:Den d [] B (.r 2 (flat L)) v) (hl:∀ p∈L,p.1.length<2^15) (hn:L.length<2^20) (Q:Ctl→Env→AH→Prop)
  (k1:∀ m E H j,(catL L).length≤128→Sat TB B ⟨d,fun _=>none⟩ m (stC v j (catL L)) E H→Q (.exit 0) E H)
  (k2:∀ m E H,128<(catL L).length→Sat TB B ⟨d,fun _=>none⟩ m stCE E H→Q .ret E H) :
  ∀ k,k≤L.length→∀ m E H j,j=(k:Int)-1→Sat TB B ⟨d,fun _=>none⟩ m (stC v j (catL (L.drop k))) E H→(catL (L.drop k)).length≤128→Cw CX (.loop rcB) E H Q:=by
 obtain ⟨G,hG⟩:∃ G,G=std CX TB B ⟨d,fun _=>none⟩:=⟨_,rfl⟩
 intro k
 induction k with
 | zero=>
   intro _ m E H j hj hs hlen
   obtain ⟨out,ho⟩:∃ out,out=catL (L.drop 0):=⟨_,rfl⟩
   rw [←ho] at hs hlen
   refine Cw.loop (Cw.seq ((W_ok (k:=fun c s1=>c=.exit 0∧s1=⟨((stC v j out).env.set 13 (.i .i64 j)).set 14 (.kb false),(stC v j out).objs⟩) (by
    rw [←hG]
    cbv
    exact ite_f hG (by rw [hG,hj];rfl) (by first | trivial | exact ⟨rfl,rfl⟩ | simp)) hs).mono ?_))
   rintro c E1 H1 ⟨s1,m1,⟨rfl,rfl⟩,hs1⟩
   rw [List.drop_zero] at ho
   subst ho
   exact k1 _ _ _ _ hlen (sat_fg (sat_fg hs1 rfl) rfl)
 | succ k ih=>
   intro hk m E H j hj hs hlen
   have hj:j=(k:Int):=by omega
   obtain ⟨out,ho⟩:∃ out,out=catL (L.drop (k+1)):=⟨_,rfl⟩
   rw [←ho] at hs hlen
   refine Cw.loop (Cw.seq ((W_ok (k:=fun c s1=>c=.normal∧s1=⟨((stC v j out).env.set 13 (.i .i64 j)).set 14 (.kb true),(stC v j out).objs⟩) (by
    rw [←hG]
    cbv
    exact ite_t hG (by rw [hG,hj];exact decide_eq_true (Int.natCast_nonneg k)) (by first | trivial | exact ⟨rfl,rfl⟩ | simp)) hs).mono ?_))
   rintro c E1 H1 ⟨s1,m1,⟨rfl,rfl⟩,hs1⟩
   have hs2:Sat TB B ⟨d,fun _=>none⟩ m1 (stC v j out) E1 H1:=sat_fg (sat_fg hs1 rfl) rfl
   clear hs1 hs
   refine Cw.seq (Cw.block (Cw.seq (Cw.region ?_)))
   refine wop_ok (K:=fun x s' f=>f=false∧x=.o 1 0∧s'=stC v j out) rfl (by rw [←hG];cbv) hs2 fun x s1 f E2 H2 m3 b1 ⟨hf,hx,hs'⟩ hsA hb1=>?_
   subst hf hx hs'
   refine wop_ok (K:=fun x s' f=>f=false∧x=.s 2∧s'=(stC v j out).put (some 17) (.o 1 0)) rfl (by rw [←hG];cbv) hsA fun x s1 f E3 H3 m4 b2 ⟨hf,hx,hs'⟩ hsB hb2=>?_
   subst hf hx hs'
   refine wop_ok (K:=fun x s' f=>f=false∧x=.v v∧s'=((stC v j out).put (some 17) (.o 1 0)).put (some 18) (.s 2)) rfl (by rw [←hG];cbv) hsB fun x s1 f E4 H4 m5 b3 ⟨hf,hx,hs'⟩ hsC hb3=>?_
   subst hf hx hs'
   refine wop_ok (K:=fun x s' f=>f=false∧x=.i .i64 j∧s'=(((stC v j out).put (some 17) (.o 1 0)).put (some 18) (.s 2)).put (some 19) (.v v)) rfl (by rw [←hG];cbv) hsC fun x s1 f E5 H5 m6 b4 ⟨hf,hx,hs'⟩ hsD hb4=>?_
   subst hf hx hs'
   have hsD:Sat TB B ⟨d,fun _=>none⟩ m6 (stC4 v j out) E5 H5:=hsD
   clear hs2 hsA hsB hsC
   have nb:∀ b:Bool,(b=true→false=true)→b=false:=fun b h=>by cases b;rfl;exact absurd (h rfl) (by decide)
   obtain rfl:=nb b1 hb1
   obtain rfl:=nb b2 hb2
   obtain rfl:=nb b3 hb3
   obtain rfl:=nb b4 hb4
   obtain ⟨p,hp⟩:∃ p,L[k]?=some p:=⟨L[k],List.getElem?_eq_getElem hk⟩
   have hpl:p.1.length<2^15:=hl p (List.mem_of_getElem? hp)
   obtain ⟨f1,f2⟩:=flat_get hp
   obtain ⟨w19,e19,q19⟩:=hsD.env 19 (.v v) rfl
   have q19:w19=v:=q19
   rw [q19] at e19
   obtain ⟨w20,e20,q20⟩:=hsD.env 20 (.i .i64 j) rfl
   obtain rfl:w20=.int .i64 j:=q20
   rw [hj] at e20
   have hv2:=hsD.old (x:=.r 2 (flat L)) (fun j=>by simp only [men];exact flat_men L j) hv
   simp only [Den] at hv2
   obtain ⟨a,n,cap,vs,hve,en,-,hd,had⟩:=hv2
   obtain ⟨w1,g1,d1⟩:=hd.get f1
   obtain ⟨w2,g2,rfl⟩:=hd.get f2
   obtain ⟨ad,rfl,bk,r1,r2,r3,r4⟩:=had (fun e=>by rw [e] at g1;simp at g1)
   rw [flat_len] at en
   have en:n=L.length:=by omega
   have c1:=r4 _ _ g1
   have c2:=r4 _ _ g2
   have hlt:k<n:=by omega
   rw [hve] at e19
   (refine Ow.popM rfl ?_;simp only [S0,Nat.reduceEqDiff,Nat.reduceAdd,reduceIte,reduceCtorEq,e19,e20,ix_ok hlt])
   (refine Ow.hopM rfl rfl ?_;simp only [S0,Nat.reduceEqDiff,Nat.reduceAdd,reduceIte,reduceCtorEq,r3,take2 c1 c2])
   have hsE:=(sat_pt (t:=21) (v:=.pointer (some ⟨ad.block,ad.off+k*2,none⟩)) hsD rfl).put (d:=some 22) (x:=.a [.u p.1,.b p.2]) (w:=.agg ⟨[w1,.bool p.2]⟩) ⟨_,rfl,_,_,rfl,d1,_,_,rfl,rfl,rfl⟩
   have hcat:=catL_drop hp
   rw [←ho] at hcat
   have hnv:nB p.1≠[]∧(nB p.1).length≤128:=nB_any p.1
   obtain ⟨pl,ps⟩:=p
   have hpl:pl.length<2^15:=hpl
   have hnv:nB pl≠[]∧(nB pl).length≤128:=hnv
   obtain ⟨q1,hq1⟩:∃ q1,q1=nB pl:=⟨_,rfl⟩
   have hW0:∀ K:SX.St→List (Bool×Bool)→Prop,(∀ s',Le s' (stC v j (G.apu out q1))→K s' [(true,false),(false,false),(true,true),(false,false),(true,true)])→WO G TB [⟨some 23,none,.call (.func 87) [.tmp 22]⟩,⟨some 24,none,.field none 0 (.tmp 23)⟩,⟨some 25,none,.append 1 1 (.tmp 18) (.tmp 24)⟩,⟨some 26,none,.fieldAddr 0 (.tmp 4)⟩,⟨none,none,.store 1 (.tmp 26) (.tmp 25)⟩]
     ((stC4 v j out).put (some 22) (.a [.u pl,.b ps])) [] K:=by
    intro K hK
    cbv
    refine call hG [] (rnorm_ok pl ps (by omega)) ⟨rfl,rfl,rfl⟩ ?_
    rintro _ _ ⟨M,t,rfl,rfl,hM,ht⟩
    cbv
    have hM:M=q1:=by rw [hM,hq1]
    subst hM
    have hap:G.ap (G.lu out) (G.lu M):=by rw [hG];simp only [std];rw [hq1];omega
    exact ⟨hap,hK _ (by constructor<;>cbv<;>simp)⟩
   have hW:=hW0 (fun s' fl=>fl=[(true,false),(false,false),(true,true),(false,false),(true,true)]∧Le s' (stC v j (G.apu out q1))) fun s' h=>⟨rfl,h⟩
   have eap:G.apu out q1=out++q1:=by rw [hG];rfl
   rw [eap,hG] at hW
   refine (WO_ok hW hsE).mono ?_
   rintro E6 H6 fl ⟨s6,m7,f2,⟨hf2,hle⟩,hfl,hsF⟩
   rw [List.reverse_nil,List.nil_append] at hf2
   subst hf2
   refine ⟨fun _=>okDraw_le (bs:=[(false,false),(true,false),(false,false),(false,false),(false,false),(true,false),(true,false),(false,false),(true,true),(false,false),(true,true)]) ⟨⟨rfl,fun h=>h⟩,⟨rfl,fun h=>h⟩,⟨rfl,fun h=>h⟩,⟨rfl,fun h=>h⟩,⟨rfl,fun h=>h⟩,⟨rfl,fun h=>h⟩,hfl⟩ (by kernel_rfl),?_⟩
   have hsG:=hsF.le hle
   rw [hq1,←hcat] at hsG
   generalize m7.take _=m8 at hsG
   have hcl:catL (L.drop k)=out++q1:=by rw [hcat,hq1]
   have hle2:=catL_le L k
   clear hsD hsE hsF hW hle
   obtain ⟨o2,ho2⟩:∃ o2,o2=catL (L.drop k):=⟨_,rfl⟩
   rw [←ho2] at hsG
   have lo2:o2.length<2^15:=by rw [ho2,hcl,List.length_append,hq1];omega
   simp only [Then]
   have hC:∀ kk:Ctl→SX.St→Prop,(∀ s1,o2.length≤128→Le s1 (stC v j o2)→kk .normal s1)→(∀ s1,128<o2.length→Le s1 stCE→kk .ret s1) →
     W G TB (match rcB with | .seq _ (.seq (.block _ (.seq _ c)) _)=>c | _=>.skip) (stC v j o2) kk:=by
    intro kk q1 q2
    cbv
    refine SX.ite hG (fun h=>?_) (fun h=>?_)
    ·have h:128<o2.length:=by
      rw [hG] at h
      have h:(o2.length:Int) > 128:=of_decide_eq_true h
      omega
     exact q2 _ h (by constructor<;>cbv<;>simp)
    ·have h:o2.length≤128:=by
      rw [hG] at h
      have h:¬ (o2.length:Int) > 128:=of_decide_eq_false h
      omega
     exact q1 _ h (by constructor<;>cbv<;>simp)
   have hC:=hC (fun c s1=>(c=.normal∧o2.length≤128∧Le s1 (stC v j o2))∨(c=.ret∧128<o2.length∧Le s1 stCE)) (fun s1 h1 h2=>.inl ⟨rfl,h1,h2⟩) fun s1 h1 h2=>.inr ⟨rfl,h1,h2⟩
   rw [hG] at hC
   refine (W_ok hC hsG).mono ?_
   rintro c E7 H7 ⟨s7,m9,⟨rfl,h128,hle⟩ | ⟨rfl,h128,hle⟩,hsH⟩
   ·have hsI:=hsH.le hle
    simp only [InBlock,Then]
    have hD:∀ kk:Ctl→SX.St→Prop,(∀ s1,Le s1 (stC v (G.ar .sub .i64 j (Int.ofNat 1)) o2)→kk .normal s1) →
      W G TB (match rcB with | .seq _ (.seq _ c)=>c | _=>.skip) (stC v j o2) kk:=by
     intro kk q1
     cbv
     exact q1 _ (by constructor<;>cbv<;>simp)
    have hD:=hD (fun c s1=>c=.normal∧Le s1 (stC v (G.ar .sub .i64 j (Int.ofNat 1)) o2)) fun s1 h=>⟨rfl,h⟩
    rw [hG] at hD
    refine (W_ok hD hsI).mono ?_
    rintro c E8 H8 ⟨s8,m10,⟨rfl,hle3⟩,hsJ⟩
    rw [←hG] at hle3
    have hsJ:=hsJ.le hle3
    refine ih (by omega) _ _ _ (G.ar .sub .i64 j (Int.ofNat 1)) ?_ (by rw [←ho2];exact hsJ) (by rw [←ho2];exact h128)
    rw [subi hG (by rw [hj];show _≤(k:Int)-1∧(k:Int)-1<_;omega),hj];rfl
   ·simp only [InBlock,Then]
    exact k2 _ _ _ (by rw [←ho2] at hle2;omega) (hsH.le hle)
theorem rconcat_ok (L:List (List Int×Bool)) (hl:∀ p∈L,p.1.length<2^15) (hn:L.length<2^20):FvC CX TB (.f 76 [] []) [.r 2 (flat L)] [] (RE (decide (L≠[]∧(catL L).length≤128)) (catL L) false (if L=[] then 4 else 12)):=by
 by_cases hne:L=[]
 ·subst hne
  refine fn_ok rfl rfl fun B D G hG q hq=>?_
  cbv
  exact hq _ _ (.inr ⟨rfl,_,_,rfl,rfl,rfl,rfl⟩)
 refine fn_sws rfl rfl fun B d q hq m E H hs=>?_
 obtain rfl:m=[]:=List.length_eq_zero_iff.1 hs.obs.len
 obtain ⟨v,e0,hv⟩:=hs.env 0 (.r 2 (flat L)) rfl
 have h1:∀ O sg e,O=catL L→sg=false→e=0→(catL L).length≤128→q (.t [.a [.s 0,.b sg],.i .i64 e]) [.u O]:=fun O sg e a b c h=>hq _ _ (.inl ⟨decide_eq_true ⟨hne,h⟩,_,_,_,rfl,rfl,a,b,c⟩)
 have h2:∀ sg e,sg=false→e=12→128<(catL L).length→q (.t [.a [.nil,.b sg],.i .i64 e]) []:=fun sg e a b h=>hq _ _ (.inr ⟨decide_eq_false fun h2=>absurd h2.2 (by omega),_,_,rfl,rfl,a,by rw [if_neg hne];exact b⟩)
 clear hq
 refine Cw.mono (Q:=fun c E' H'=>∃ s' m',post [.cell 2 (some 2),.tmp 3] q c s'∧Sat TB H ⟨Own [] [],fun _=>none⟩ m' s' E' H') ?_ fun c E' H' ⟨s',m',hp,h⟩=>⟨s',m',hp,hs.trans h fun _ h=>h⟩
 obtain ⟨G,hG⟩:∃ G,G=std CX TB H ⟨Own [] [],fun _=>none⟩:=⟨_,rfl⟩
 have hs1:Sat TB H ⟨Own [] [],fun _=>none⟩ [] ⟨T.nil.set 0 (SV.v v),[]⟩ E H:=hs.self.reEnv fun t x hx=>by
  rw [T.get_set] at hx
  split at hx
  ·cases hx;rename_i e;subst e;exact ⟨v,e0,rfl⟩
  ·simp at hx
 obtain ⟨a,n,cap,vs,hve,en,-⟩:=(show ∃ a n cap vs,v=.slice a n cap∧(flat L).length=n*2∧_ from hv)
 rw [flat_len] at en
 have en:n=L.length:=by omega
 have hLp:0<L.length:=List.length_pos_iff.2 hne
 have hn0:((n:Int) == 0)=false:=by rw [beq_eq_false_iff_ne];omega
 refine Cw.seq ((W_ok (k:=fun c s1=>c=.normal∧s1=⟨((T.nil.set 0 (SV.v v)).set 2 (.o 0 0)).set 3 (.n .i64 0),[.x [.nil,.kb false]]⟩) (by rw [←hG];cbv) hs1).mono ?_)
 rintro c E1 H1 ⟨s1,m1,⟨rfl,rfl⟩,hs2⟩
 have hs2:Sat TB H ⟨Own [] [],fun _=>none⟩ m1 ⟨(T.nil.set 0 (SV.v v)).set 2 (.o 0 0),[.x [.nil,.kb false]]⟩ E1 H1:=sat_fg hs2 rfl
 obtain ⟨w0,e1,q0⟩:=hs2.env 0 (.v v) rfl
 have q0:w0=v:=q0
 rw [q0,hve] at e1
 refine Cw.seq (Cw.seq (Cw.region ?_))
 (refine Ow.popM rfl ?_;simp only [S0,Nat.reduceEqDiff,Nat.reduceAdd,reduceIte,reduceCtorEq,e1])
 (refine Ow.popM rfl ?_;simp only [S0,Nat.reduceEqDiff,Nat.reduceAdd,reduceIte,reduceCtorEq])
 (refine Ow.popM rfl ?_;simp only [S0,Nat.reduceEqDiff,Nat.reduceAdd,reduceIte,reduceCtorEq,hn0])
 refine Ow.nilM ⟨nofun,?_⟩
 refine Cw.cond (t:=false) (by simp only [S0,Nat.reduceEqDiff,Nat.reduceAdd,reduceIte,reduceCtorEq,hn0]) ?_
 rw [if_neg (by decide)]
 refine Cw.skip ?_
 simp only [Then]
 have hs3:=sat_pt (t:=8) (v:=.bool false) (sat_pt (t:=7) (v:=.int .i64 (n:Int)) (sat_pt (t:=6) (v:=.slice a n cap) hs2 rfl) rfl) rfl
 refine Cw.seq ((W_ok (k:=fun c s1=>c=.normal∧s1=⟨((T.nil.set 0 (SV.v v)).set 2 (.o 0 0)).set 4 (.o 1 0),[.x [.nil,.kb false],.x [.nil,.kb false]]⟩) (by rw [←hG];cbv) hs3).mono ?_)
 rintro c E2 H2 ⟨s2,m2,⟨rfl,rfl⟩,hs4⟩
 clear hs1 hs2 hs3
 obtain ⟨w0,e2,q0⟩:=hs4.env 0 (.v v) rfl
 have q0:w0=v:=q0
 rw [q0,hve] at e2
 have e3:fwrap .i64 ((n:Int)-1)=(n:Int)-1:=fwi (by omega)
 refine Cw.seq (Cw.seq (Cw.region ?_))
 (refine Ow.popM rfl ?_;simp only [S0,Nat.reduceEqDiff,Nat.reduceAdd,reduceIte,reduceCtorEq,e2])
 (refine Ow.popM rfl ?_;simp only [S0,Nat.reduceEqDiff,Nat.reduceAdd,reduceIte,reduceCtorEq])
 (refine Ow.popM rfl ?_;simp only [S0,Nat.reduceEqDiff,Nat.reduceAdd,reduceIte,reduceCtorEq,e3])
 (refine Ow.popM rfl ?_;simp only [S0,Nat.reduceEqDiff,Nat.reduceAdd,reduceIte,reduceCtorEq])
 refine Ow.nilM ⟨nofun,?_⟩
 simp only [Then]
 have hs5:=(sat_pt (t:=12) (v:=.int .i64 ((n:Int)-1)) (sat_pt (t:=11) (v:=.int .i64 (n:Int)) (sat_pt (t:=10) (v:=.slice a n cap) hs4 rfl) rfl) rfl).put (d:=some 5) (x:=.i .i64 ((n:Int)-1)) (w:=.int .i64 ((n:Int)-1)) rfl
 have hs6:=hs5.regB 1 0 (.u []) rfl rfl
 refine Cw.block (rc_loop hv hl hn _ ?_ ?_ L.length (Nat.le_refl _) _ _ _ ((n:Int)-1) (by rw [en]) (by rw [List.drop_length];exact hs6) (by rw [List.drop_length];decide))
 ·intro m3 E3 H3 j h128 hs7
  simp only [InBlock,Nat.beq_refl,cond_true,Then]
  obtain ⟨O,hO⟩:∃ O,O=catL L:=⟨_,rfl⟩
  rw [←hO] at hs7
  have hD:∀ kk:Ctl→SX.St→Prop,(∀ s1,Le s1 ⟨(T.nil.set 2 (SV.o 0 0)).set 3 (.n .i64 0),[.x [.s 2,.kb false],.dead,.u O]⟩→kk .ret s1)→W G TB (dropC 4 IR.fi76.code) (stC v j O) kk:=by
   intro kk q1
   cbv
   exact q1 _ (by constructor<;>cbv<;>simp)
  have hD:=hD (fun c s1=>c=.ret∧Le s1 ⟨(T.nil.set 2 (SV.o 0 0)).set 3 (.n .i64 0),[.x [.s 2,.kb false],.dead,.u O]⟩) fun s1 h=>⟨rfl,h⟩
  rw [hG] at hD
  refine (W_ok hD hs7).mono ?_
  rintro c E4 H4 ⟨s4,m4,⟨rfl,hle⟩,hs8⟩
  refine ⟨_,_,?_,hs8.le hle⟩
  have h3:=h1 O false 0 hO rfl rfl h128
  cbv
  exact h3
 ·intro m3 E3 H3 h128 hs7
  simp only [InBlock,Then]
  refine ⟨_,_,?_,hs7⟩
  have h3:=h2 false 12 rfl rfl h128
  cbv
  exact h3
end Go.Proofs.YtdgbdkfoeaollaaGreatDoor.V
end
section
set_option linter.unusedSimpArgs false
set_option linter.unusedVariables false
set_option maxRecDepth 100000
namespace Go.Proofs.YtdgbdkfoeaollaaGreatDoor.V
open Go Go.AL Go.SX Go.Proofs.YtdgbdkfoeaollaaGreatDoor.V0
section
variable {m m':List Value} {H H':AH} {E E':Env} {tb:List (List Int)} {B:AH} {D:Bs} {s s':SX.St}
theorem sat_ext (hs:Sat tb B D m s E H) (he:AL.Ext H H'):Sat tb B D m s E H':=by
 have hn:=he.n
 have hg:=he.get
 refine ⟨⟨hs.obs.len,fun i o v h1 h2=>?_,hs.obs.dis⟩,hs.own,fun t x hx=>?_,⟨Nat.le_trans hs.fr.n hn,fun id h1 h2=>?_,fun x h1 h2 h3=>?_⟩,hs.fix,fun k l hk=>?_⟩
 ·by_cases hd:o=.dead
  ·subst hd;exact trivial
  ·exact ObjOk.same (H:=H) (fun _ _ h=>h) hn (fun id h _=>hg id h) (fun id h=>hg id ((hs.obs.ok i o v h1 h2).lt hd h)) (fun _ _ _ h=>h) (hs.obs.ok i o v h1 h2)
 ·obtain ⟨w,e1,e2⟩:=hs.env t x hx
  exact ⟨w,e1,e2.mono (fun _ _ h=>h) hn (fun id h _=>hg id h) x w (fun _ _ _ h=>h)⟩
 ·rw [hg id (Nat.lt_of_lt_of_le h1 hs.fr.n)];exact hs.fr.get id h1 h2
 ·have:=hs.fr.wl x h1 h2 h3
  have:=he.wl
  have:=hs.fr.n
  omega
 ·obtain ⟨h1,h2⟩:=hs.gl k l hk
  exact ⟨Nat.lt_of_lt_of_le h1 hn,by rw [hg k h1];exact h2⟩
end
def rpC (w1:Value) (s:Bool):Nat→List Value
 | 0=>[]
 | k+1=>rpC w1 s k++[w1,.bool s]
theorem rpC_len (w1:Value) (s:Bool):∀ k,(rpC w1 s k).length=k*2
 | 0=>rfl
 | k+1=>by simp only [rpC,List.length_append,rpC_len w1 s k,List.length_cons,List.length_nil];omega
def IsV (w1:Value) (s:Bool) (H0 H:AH) (v:Value) (k:Nat):Prop:=
 (v=.slice none 0 0∧k=0)∨∃ id,v=.slice (some ⟨id,0,none⟩) k UC∧1≤k∧H0.n≤id∧id<H.n∧H.t.get id=some ⟨rpC w1 s k,4⟩
theorem take_all (l:List Value) (n:Nat) (h:l.length=n):takeCells l 0 n=some l:=by
 unfold takeCells
 simp only [List.drop_zero,List.take_of_length_le (Nat.le_of_eq h),h,Nat.beq_refl,cond_true]
theorem ow_appV {C:Ctx} {E:Env} {H H0:AH} {d:Option Nat} {g:Option (Nat×Bool)} {os:List IOper} {Q:Env→AH→List (Bool×Bool)→Prop} {x y:Operand} {v w1:Value} {s:Bool} {k id z:Nat} (hg:wanted E g=some true) (hx:ev E x=some v) (hy:ev E y=some (.slice (some ⟨id,0,none⟩) 1 1)) (hv:IsV w1 s H0 H v k)
  (hb:H.t.get id=some ⟨[w1,.bool s],0⟩) (h0:AL.Ext H0 H) (hk:k<2^20) (hw:scalar w1=true) (h:∀ r H' b,AL.Ext H0 H'→IsV w1 s H0 H' r (k+1)→Ow C os (AL.put E d r) H' fun E' H'' fl=>Q E' H'' ((true,b)::fl)) :
  Ow C (⟨d,g,.append 2 z x y⟩::os) E H Q:=by
 have n0:=h0.n
 have w0:=h0.wl
 have hnew:([w1,.bool s]:List Value).all scalar=true:=by simp only [List.all_cons,hw,List.all_nil];rfl
 have e1:rdSlice { H with wl:=H.n } (1*2) (some ⟨id,0,none⟩)=some [w1,.bool s]:=by
  show (match H.t.get id with | none=>none | some b=>takeCells b.cells 0 2)=_
  rw [hb];exact take_all _ _ rfl
 rcases hv with ⟨rfl,rfl⟩ | ⟨i2,rfl,hk1,hid,hid',hbk⟩
 ·refine Ow.wop (v:=.slice (some ⟨H.n,0,none⟩) 1 UC) (H1:=({ H with wl:=H.n }:AH).new ⟨[w1,.bool s],4⟩) hg rfl rfl ?_ rfl ?_
  ·simp only [AL.hop,hx,hy,e1,hnew]
   rfl
  ·refine h _ _ _ ⟨?_,?_,?_⟩ (.inr ⟨H.n,rfl,Nat.le_refl _,n0,?_,?_⟩)
   ·show H0.n≤H.n+1;omega
   ·intro i hi
    show (H.t.set H.n _).get i=_
    rw [T.get_set_ne _ _ (by omega)];exact h0.get i hi
   ·show _≤min H.wl H.n;omega
   ·show H.n<H.n+1;omega
   ·show (H.t.set H.n _).get H.n=_
    rw [T.get_set_self];rfl
 ·have e2:rdSlice { H with wl:=H.n } (k*2) (some ⟨i2,0,none⟩)=some (rpC w1 s k):=by
   have hz:(k*2).beq 0=false:=beq_zero (by omega)
   simp only [rdSlice,hz,cond_false,hbk]
   exact take_all _ _ (rpC_len w1 s k)
  have hle:Nat.ble (2^36) (k+1)=false:=ble_false (by omega)
  refine Ow.wop (v:=.slice (some ⟨H.n,0,none⟩) (k+1) UC) (H1:=(({ H with wl:=H.n }:AH).kill i2).new ⟨rpC w1 s (k+1),4⟩) hg rfl rfl ?_ rfl ?_
  ·simp only [AL.hop,hx,hy,e1,e2,hnew,hle,Bool.not_true,Bool.or_false,cond_false,Nat.beq_refl,cond_true,hbk]
   rfl
  ·refine h _ _ _ ⟨?_,?_,?_⟩ (.inr ⟨H.n,rfl,by omega,n0,?_,?_⟩)
   ·show H0.n≤H.n+1;omega
   ·intro i hi
    show ((H.t.del i2).set H.n _).get i=_
    rw [T.get_set_ne _ _ (by omega),T.get_del,if_neg (by omega)];exact h0.get i hi
   ·show _≤min H.wl (min H.n i2);omega
   ·show H.n<H.n+1;omega
   ·show ((H.t.del i2).set H.n _).get H.n=_
    rw [T.get_set_self]
def stR0 (l:List Int) (s:Bool) (n:Int):SX.St:=⟨((T.nil.set 1 (SV.i .i64 n)).set 2 (.o 0 0)).set 4 (.o 1 0),[.x [.u l,.b s],.x [.nil,.kb false]]⟩
theorem denR {A:Nat→Prop} {m:List Value} {H:AH} {l:List Int} {s:Bool} {w1:Value} (h:Den A m H (.u l) w1):∀ k,DenL A m H (flat (List.replicate k (l,s))) (rpC w1 s k):=by
 intro k
 have app:∀ k,rpC w1 s (k+1)=[w1,.bool s]++rpC w1 s k:=by
  intro k
  induction k with
  | zero=>rfl
  | succ k ih=>exact (congrArg (· ++ [w1,.bool s]) ih).trans (List.append_assoc _ _ _)
 induction k with
 | zero=>rfl
 | succ k ih=>rw [app];exact ⟨w1,_,rfl,h,.bool s,_,rfl,rfl,ih⟩
theorem rrep_tail {B:AH} {d:Nat→Prop} (l:List Int) (s:Bool) (n:Int) (hl:l.length<2^15) (hn:1≤n) (hn2:n<2^63) (K:Nat) (hK:K=(min n 200).toNat) (q:SV→List SX.Obj→Prop)
  (hq:∀ r ro,RE (decide (List.replicate K (l,s)≠[]∧(catL (List.replicate K (l,s))).length≤128)) (catL (List.replicate K (l,s))) false (if List.replicate K (l,s)=[] then 4 else 12) r ro→q r ro) :
  SWs CX TB B ⟨d,fun _=>none⟩ (dropC 2 IR.fi77.code) (stR0 l s n) (post [.cell 4 (some 2),.tmp 5] q):=by
 intro m E H hs
 obtain ⟨v1,g1,q1⟩:=hs.env 1 (.i .i64 n) rfl
 obtain rfl:v1=.int .i64 n:=q1
 obtain ⟨v2,g2,i2,j2,rfl⟩:=hs.env 2 (.o 0 0) rfl
 obtain ⟨v4,g4,q4⟩:=hs.env 4 (.o 1 0) rfl
 obtain ⟨id',vs,h4,h5,h6,h7⟩:=hs.obs.ok 0 (.x [.u l,.b s]) _ rfl j2
 cases h4
 obtain ⟨w1,ws,rfl,d1,w2,ws2,rfl,h8,h9⟩:=h7
 obtain rfl:w2=.bool s:=h8
 obtain rfl:ws2=[]:=h9
 have hsc:scalar w1=true:=by
  obtain ⟨a,cap,rfl,-⟩:=(show ∃ a cap,w1=.slice a (intV l).length cap∧_ from d1)
  rfl
 have hjk:junk (.agg ⟨[w1,.bool s]⟩)=false:=rfl
 have hKn:(K:Int)≤n∧K≤200∧(K:Int)=min n 200:=by omega
 refine Cw.seq (Cw.region ?_)
 (refine Ow.popM rfl ?_;simp only [S0,Nat.reduceEqDiff,Nat.reduceAdd,reduceIte,reduceCtorEq])
 refine Ow.nilM ⟨nofun,?_⟩
 simp only [Then]
 refine Cw.seq (Cw.seq (Cw.region ?_))
 (refine Ow.popM rfl ?_;simp only [S0,Nat.reduceEqDiff,Nat.reduceAdd,reduceIte,reduceCtorEq])
 refine Ow.nilM ⟨nofun,?_⟩
 simp only [Then]
 refine Cw.block (Cw.loopI K (fun k E' H'=>E'.get 1=some (.int .i64 n)∧E'.get 2=some (.pointer (some ⟨i2,0,none⟩))∧E'.get 4=some v4∧E'.get 7=some (.int .i64 (k:Int))∧AL.Ext H H'∧∃ v,E'.get 6=some v∧IsV w1 s H H' v k)
  ⟨by simp only [S0,Nat.reduceEqDiff,Nat.reduceAdd,reduceIte,reduceCtorEq,g1],by simp only [S0,Nat.reduceEqDiff,Nat.reduceAdd,reduceIte,reduceCtorEq,g2],by simp only [S0,Nat.reduceEqDiff,Nat.reduceAdd,reduceIte,reduceCtorEq,g4],by simp only [S0,Nat.reduceEqDiff,Nat.reduceAdd,reduceIte,reduceCtorEq];rfl,.refl _,_,by simp only [S0,Nat.reduceEqDiff,Nat.reduceAdd,reduceIte,reduceCtorEq],.inl ⟨rfl,rfl⟩⟩ ?_)
 rintro k E' H' hkK ⟨e1,e2,e4,e7,hx,v,e6,hv⟩
 refine Cw.seq (Cw.seq (Cw.region ?_))
 by_cases hlt:k<K
 ·have t1:decide ((k:Int)<n)=true:=decide_eq_true (by omega)
  have t2:decide ((k:Int)<200)=true:=decide_eq_true (by omega)
  iterate 2 (refine Ow.popM rfl ?_;simp only [S0,Nat.reduceEqDiff,Nat.reduceAdd,reduceIte,reduceCtorEq,e1,e7,t1,t2])
  iterate 5 (refine Ow.popM rfl ?_;simp only [S0,Nat.reduceEqDiff,Nat.reduceAdd,reduceIte,reduceCtorEq,e1,e7,t1,t2])
  refine Ow.nilM ⟨nofun,?_⟩
  refine Cw.cond (t:=true) (by simp only [S0,Nat.reduceEqDiff,Nat.reduceAdd,reduceIte,reduceCtorEq,t1,t2]) ?_
  rw [if_pos rfl]
  refine Cw.skip ?_
  simp only [Then]
  refine Cw.seq (Cw.block (Cw.region ?_))
  have b2:H'.t.get i2=some ⟨[w1,.bool s],0⟩:=by rw [hx.get i2 h5];exact h6
  iterate 1 (refine Ow.popM rfl ?_;simp only [S0,Nat.reduceEqDiff,Nat.reduceAdd,reduceIte,reduceCtorEq,e6])
  (refine Ow.hopM rfl rfl ?_;simp only [S0,Nat.reduceEqDiff,Nat.reduceAdd,reduceIte,reduceCtorEq,e2,b2,take2 (cs:=[w1,.bool s]) (o:=0) rfl rfl])
  refine Ow.newA (b:=⟨[w1,.bool s],0⟩) (v:=.slice (some ⟨H'.n,0,none⟩) 1 1) rfl rfl rfl (by simp only [AL.hop,AL.fillParts,S0,Nat.reduceEqDiff,Nat.reduceAdd,reduceIte,reduceCtorEq,AL.cellsOf,hjk];rfl) ?_
  intro H2 hx2 hlt2 hb2
  refine ow_appV (k:=k) (w1:=w1) (s:=s) (H0:=H) rfl (by simp only [S0,Nat.reduceEqDiff,Nat.reduceAdd,reduceIte,reduceCtorEq,e6]) (by simp only [S0,Nat.reduceEqDiff,Nat.reduceAdd,reduceIte,reduceCtorEq]) (v:=v) ?_ hb2 (hx.trans hx2) (by omega) hsc ?_
  ·rcases hv with h | ⟨i3,r1,r2,r3,r4,r5⟩
   ·exact .inl h
   ·exact .inr ⟨i3,r1,r2,r3,by omega,by rw [hx2.get i3 r4];exact r5⟩
  intro r H3 b hx3 hv3
  (refine Ow.popM rfl ?_;simp only [S0,Nat.reduceEqDiff,Nat.reduceAdd,reduceIte,reduceCtorEq])
  refine Ow.nilM ⟨nofun,?_⟩
  simp only [InBlock,Then]
  refine Cw.region ?_
  have e3:fwrap .i64 ((k:Int)+1)=((k+1:Nat):Int):=by rw [fwi (by omega)];omega
  iterate 2 (refine Ow.popM rfl ?_;simp only [S0,Nat.reduceEqDiff,Nat.reduceAdd,reduceIte,reduceCtorEq,e7,e3])
  (refine Ow.popM rfl ?_;simp only [S0,Nat.reduceEqDiff,Nat.reduceAdd,reduceIte,reduceCtorEq])
  refine Ow.nilM ⟨nofun,hlt,?_⟩
  refine ⟨by simp only [S0,Nat.reduceEqDiff,Nat.reduceAdd,reduceIte,reduceCtorEq,e1],by simp only [S0,Nat.reduceEqDiff,Nat.reduceAdd,reduceIte,reduceCtorEq,e2],by simp only [S0,Nat.reduceEqDiff,Nat.reduceAdd,reduceIte,reduceCtorEq,e4],by simp only [S0,Nat.reduceEqDiff,Nat.reduceAdd,reduceIte,reduceCtorEq],hx3,r,by simp only [S0,Nat.reduceEqDiff,Nat.reduceAdd,reduceIte,reduceCtorEq],hv3⟩
 ·obtain rfl:k=K:=by omega
  have fin:∀ E2:Env,E2.get 2=some (.pointer (some ⟨i2,0,none⟩))→E2.get 4=some v4→E2.get 6=some v→Cw CX (dropC 4 IR.fi77.code) E2 H' fun c E' H'=>∃ s' m',post [.cell 4 (some 2),.tmp 5] q c s'∧Sat TB B ⟨d,fun _=>none⟩ m' s' E' H':=by
   intro E2 e2 e4 e6
   have hlow:∀ id,Own m (stR0 l s n).objs id→id<H.n:=by
    rintro id ⟨i,o,v,h1,h2,h3,h4⟩
    exact (hs.obs.ok i o v h1 h3).lt h2 h4
   have d1':=d1.mono (A':=Own m (stR0 l s n).objs) (m':=m) (fun _ _ h=>h) hx.n (fun id h _=>hx.get id h) _ _ (fun _ _ _ h=>h)
   obtain ⟨F,hF⟩:∃ F,F=flat (List.replicate k (l,s)):=⟨_,rfl⟩
   have hs':Sat TB B ⟨d,fun _=>none⟩ m ⟨((T.nil.set 2 (SV.o 0 0)).set 4 (.o 1 0)).set 6 (.r 2 F),(stR0 l s n).objs⟩ E2 H':=(sat_ext hs hx).reEnv fun t x ht=>by
    simp only [T.get_set] at ht
    split at ht
    ·cases ht
     rename_i e;subst e
     refine ⟨v,e6,?_⟩
     rcases hv with ⟨_,hk0⟩ | ⟨id,rfl,r1,r2,r3,r4⟩
     ·omega
     ·rw [hF]
      refine ⟨_,k,_,rpC w1 s k,rfl,by rw [flat_len,List.length_replicate],by decide,denR d1' k,fun _=>⟨_,rfl,_,r3,fun h=>absurd (hlow _ h) (by show ¬ id<H.n;omega),r4,fun i x hi=>?_⟩⟩
      rw [Nat.zero_add];exact hi
    split at ht
    ·cases ht;rename_i e;subst e;exact ⟨v4,e4,q4⟩
    split at ht
    ·cases ht;rename_i e;subst e;exact ⟨_,e2,i2,j2,rfl⟩
    ·simp at ht
   obtain ⟨G,hG⟩:∃ G,G=std CX TB B ⟨d,fun _=>none⟩:=⟨_,rfl⟩
   have hc:=rconcat_ok (List.replicate k (l,s)) (fun p hp=>by rw [(List.mem_replicate.1 hp).2];exact hl) (by rw [List.length_replicate];omega)
   have rdF:∀ (G:Sg) (st:SX.St) (L:List (List Int×Bool)) (n:Nat),mapO (rd G st [] false (n+1)) (flat L)=some (flat L):=by
    intro G st L n
    induction L with
    | nil=>rfl
    | cons p r ih=>
      have a1:rd G st [] false (n+1) (.u p.1)=some (.u p.1):=rfl
      have a2:rd G st [] false (n+1) (.b p.2)=some (.b p.2):=rfl
      simp only [flat,mapO,a1,a2,ih]
   have rdL:∀ (G:Sg) (st:SX.St),mapO (rd G st [] false 9) [.r 2 F]=some [.r 2 (flat (List.replicate k (l,s)))]:=by
    intro G st
    have a1:rd G st [] false 9 (.r 2 F)=some (.r 2 F):=by
     show (match mapO (rd G st [] false 8) F with | some cs=>some (SV.r 2 cs) | none=>none)=_
     rw [hF,rdF G st _ 7]
    rw [←hF]
    simp only [mapO,a1]
   have hW:W G TB (dropC 4 IR.fi77.code) ⟨((T.nil.set 2 (SV.o 0 0)).set 4 (.o 1 0)).set 6 (.r 2 F),(stR0 l s n).objs⟩ (post [.cell 4 (some 2),.tmp 5] q):=by
    cbv
    refine call hG [] hc ⟨rfl,rfl,rdL _ _⟩ ?_
    rintro r ro (⟨hcc,l',sg',e',rfl,rfl,hl',hs',he'⟩ | ⟨hcc,sg',e',rfl,rfl,hs',he'⟩)
    ·have h9:=hq _ _ (.inl ⟨hcc,l',sg',e',rfl,rfl,hl',hs',he'⟩)
     clear hq hc
     cbv
     exact h9
    ·have h9:=hq _ _ (.inr ⟨hcc,sg',e',rfl,rfl,hs',he'⟩)
     clear hq hc
     cbv
     exact h9
   rw [hG] at hW
   exact W_ok hW hs'
  by_cases h2:(k:Int)<n
  ·obtain rfl:k=200:=by omega
   have t1:decide (((200:Nat):Int)<n)=true:=decide_eq_true h2
   have t2:decide (((200:Nat):Int)<200)=false:=by decide
   iterate 7 (refine Ow.popM rfl ?_;simp only [S0,Nat.reduceEqDiff,Nat.reduceAdd,reduceIte,reduceCtorEq,e1,e7,t1,t2])
   refine Ow.nilM ⟨nofun,?_⟩
   refine Cw.cond (t:=false) (by simp only [S0,Nat.reduceEqDiff,Nat.reduceAdd,reduceIte,reduceCtorEq,t1,t2]) ?_
   rw [if_neg (by decide)]
   refine Cw.exit ?_
   simp only [Then,Rnd,InBlock,Nat.beq_refl,cond_true]
   exact fin _ (by simp only [S0,Nat.reduceEqDiff,Nat.reduceAdd,reduceIte,reduceCtorEq,e2]) (by simp only [S0,Nat.reduceEqDiff,Nat.reduceAdd,reduceIte,reduceCtorEq,e4]) (by simp only [S0,Nat.reduceEqDiff,Nat.reduceAdd,reduceIte,reduceCtorEq,e6])
  ·have t1:decide ((k:Int)<n)=false:=decide_eq_false h2
   iterate 7 (refine Ow.popM rfl ?_;simp only [S0,Nat.reduceEqDiff,Nat.reduceAdd,reduceIte,reduceCtorEq,e1,e7,t1])
   refine Ow.nilM ⟨nofun,?_⟩
   refine Cw.cond (t:=false) (by simp only [S0,Nat.reduceEqDiff,Nat.reduceAdd,reduceIte,reduceCtorEq,t1]) ?_
   rw [if_neg (by decide)]
   refine Cw.exit ?_
   simp only [Then,Rnd,InBlock,Nat.beq_refl,cond_true]
   exact fin _ (by simp only [S0,Nat.reduceEqDiff,Nat.reduceAdd,reduceIte,reduceCtorEq,e2]) (by simp only [S0,Nat.reduceEqDiff,Nat.reduceAdd,reduceIte,reduceCtorEq,e4]) (by simp only [S0,Nat.reduceEqDiff,Nat.reduceAdd,reduceIte,reduceCtorEq,e6])
theorem rrepeat_ok (l:List Int) (s:Bool) (n:Int) (hl:l.length<2^15) (h64:I64 n):FvC CX TB (.f 77 [] []) [.a [.u l,.b s],.i .i64 n] []
  (RE (decide (1≤n∧(catL (List.replicate (min n 200).toNat (l,s))).length≤128)) (catL (List.replicate (min n 200).toNat (l,s))) false (if n<1 then 1 else 12)):=by
 refine fn_sws rfl rfl fun B d q hq=>?_
 obtain ⟨G,hG⟩:∃ G,G=std CX TB B ⟨d,fun _=>none⟩:=⟨_,rfl⟩
 refine sws_seq hG fun R hR=>?_
 cbv
 refine hR _ ?_
 clear hR R
 refine sws_seq hG fun R hR=>?_
 cbv
 refine SX.ite hG (fun h1=>?_) (fun h1=>?_)
 ·have h1:n<1:=by rw [hG] at h1;exact of_decide_eq_true h1
  exact hq _ _ (.inr ⟨decide_eq_false (by omega),_,_,rfl,rfl,rfl,by rw [if_pos h1];rfl⟩)
 ·have h1:¬ n<1:=by rw [hG] at h1;exact of_decide_eq_false h1
  have hne:List.replicate (min n 200).toNat (l,s)≠[]:=by
   intro e
   have:=congrArg List.length e
   rw [List.length_replicate] at this
   simp at this
   omega
  refine hR _ (sws_le (s':=stR0 l s n) (by constructor<;>cbv<;>simp) (rrep_tail l s n hl (by omega) (by have:=h64.2;omega) _ rfl q fun r ro h=>hq r ro ?_))
  rw [if_neg hne] at h
  rw [if_neg h1]
  have e:decide (List.replicate (min n 200).toNat (l,s)≠[]∧(catL (List.replicate (min n 200).toNat (l,s))).length≤128)=decide (1≤n∧(catL (List.replicate (min n 200).toNat (l,s))).length≤128):=
   decide_eq_decide.2 ⟨fun h=>⟨by omega,h.2⟩,fun h=>⟨hne,h.2⟩⟩
  rw [e] at h
  exact h
end Go.Proofs.YtdgbdkfoeaollaaGreatDoor.V
end
section
set_option linter.unusedSimpArgs false
set_option linter.unusedVariables false
set_option cbv.maxSteps 4000000
set_option maxRecDepth 100000
set_option maxHeartbeats 8000000
namespace Go.Proofs.YtdgbdkfoeaollaaGreatDoor.V
open Go Go.AL Go.SX Go.Proofs.YtdgbdkfoeaollaaGreatDoor.V0
theorem concat3_ok (l m o:List Int) (s t u:Bool) (hl:l.length<2^15) (hm:m.length<2^15) (ho:o.length<2^15):FvC CX TB (.f 24 [] []) [.r 2 [.u l,.b s,.u m,.b t,.u o,.b u]] [] (RE (decide (((nB o++nB m)++nB l).length≤128)) ((nB o++nB m)++nB l) false 12):=by
 have:=V0.concat_ok [(l,s),(m,t),(o,u)] (fun p hp=>by
  simp only [List.mem_cons,List.not_mem_nil,or_false] at hp
  rcases hp with rfl | rfl | rfl
  ·exact hl
  ·exact hm
  ·exact ho) (by simp)
 have e:catL [(l,s),(m,t),(o,u)]=(nB o++nB m)++nB l:=by simp [catL]
 rw [e] at this
 refine this.mono fun r ro h=>?_
 have e2:decide ([(l,s),(m,t),(o,u)]≠[]∧((nB o++nB m)++nB l).length≤128)=decide (((nB o++nB m)++nB l).length≤128):=by simp
 rw [e2] at h
 simpa using h
theorem rconcat3_ok (l m o:List Int) (s t u:Bool) (hl:l.length<2^15) (hm:m.length<2^15) (ho:o.length<2^15):FvC CX TB (.f 76 [] []) [.r 2 [.u l,.b s,.u m,.b t,.u o,.b u]] [] (RE (decide (((nB o++nB m)++nB l).length≤128)) ((nB o++nB m)++nB l) false 12):=by
 have:=rconcat_ok [(l,s),(m,t),(o,u)] (fun p hp=>by
  simp only [List.mem_cons,List.not_mem_nil,or_false] at hp
  rcases hp with rfl | rfl | rfl
  ·exact hl
  ·exact hm
  ·exact ho) (by simp)
 have e:catL [(l,s),(m,t),(o,u)]=(nB o++nB m)++nB l:=by simp [catL]
 rw [e] at this
 refine this.mono fun r ro h=>?_
 have e2:decide ([(l,s),(m,t),(o,u)]≠[]∧((nB o++nB m)++nB l).length≤128)=decide (((nB o++nB m)++nB l).length≤128):=by simp
 rw [e2] at h
 simpa using h
theorem concat1_ok (l:List Int) (s:Bool) (hl:l.length<2^15):FvC CX TB (.f 24 [] []) [.r 2 [.u l,.b s]] [] (RE (decide ((nB l).length≤128)) (nB l) false 12):=by
 have:=V0.concat_ok [(l,s)] (fun p hp=>by
  simp only [List.mem_cons,List.not_mem_nil,or_false] at hp
  subst hp
  exact hl) (by simp)
 have e:catL [(l,s)]=nB l:=by simp [catL]
 rw [e] at this
 refine this.mono fun r ro h=>?_
 have e2:decide ([(l,s)]≠[]∧(nB l).length≤128)=decide ((nB l).length≤128):=by simp
 rw [e2] at h
 simpa using h
theorem rconcat1_ok (l:List Int) (s:Bool) (hl:l.length<2^15):FvC CX TB (.f 76 [] []) [.r 2 [.u l,.b s]] [] (RE (decide ((nB l).length≤128)) (nB l) false 12):=by
 have:=rconcat_ok [(l,s)] (fun p hp=>by
  simp only [List.mem_cons,List.not_mem_nil,or_false] at hp
  subst hp
  exact hl) (by simp)
 have e:catL [(l,s)]=nB l:=by simp [catL]
 rw [e] at this
 refine this.mono fun r ro h=>?_
 have e2:decide ([(l,s)]≠[]∧(nB l).length≤128)=decide ((nB l).length≤128):=by simp
 rw [e2] at h
 simpa using h
theorem cat_rep (l:List Int) (s:Bool):∀ k,(catL (List.replicate k (l,s))).length=k*(nB l).length∧∀ i:Nat,i<k*(nB l).length→gu (catL (List.replicate k (l,s))) i=gu (nB l) (i % (nB l).length:Nat):=by
 intro k
 induction k with
 | zero=>exact ⟨by simp [catL],fun i h=>by simp at h⟩
 | succ k ih=>
   have e:catL (List.replicate (k+1) (l,s))=catL (List.replicate k (l,s))++nB l:=rfl
   rw [e]
   refine ⟨by rw [List.length_append,ih.1,Nat.succ_mul],fun i hi=>?_⟩
   rw [gu_app,ih.1]
   split
   ·rename_i h;exact ih.2 i h
   ·rename_i h
    rw [Nat.succ_mul] at hi
    have h2:i-k*(nB l).length<(nB l).length:=by omega
    have h3:i % (nB l).length=i-k*(nB l).length:=by
     rw [←Nat.mod_eq_of_lt h2]
     conv=>lhs;rw [show i=(i-k*(nB l).length)+(nB l).length*k by rw [Nat.mul_comm (nB l).length k];omega]
     rw [Nat.add_mul_mod_self_left]
    rw [h3]
theorem rrepeat2_ok (l:List Int) (s:Bool) (n:Int) (hl:l.length<2^15) (hb:Byt l) (h64:I64 n):FvC CX TB (.f 77 [] []) [.a [.u l,.b s],.i .i64 n] [] (RE (repC (nB l) n) (repL (nB l) n.toNat) false (if n<1 then 1 else 12)):=by
 have nv:=nB_nv hb
 have hp:=List.length_pos_iff.2 nv.ne
 have hc:=cat_rep l s (min n 200).toNat
 have e1:decide (1≤n∧(catL (List.replicate (min n 200).toNat (l,s))).length≤128)=repC (nB l) n:=by
  unfold repC
  refine decide_eq_decide.2 (and_congr_right fun h1=>?_)
  rw [hc.1,Int.le_ediv_iff_mul_le (by omega)]
  by_cases h2:n≤200
  ·rw [show (min n 200).toNat=n.toNat by omega]
   have:n=(n.toNat:Int):=by omega
   generalize n.toNat=k at *
   subst this
   rw [←Int.natCast_mul]
   omega
  ·rw [show (min n 200).toNat=200 by omega]
   constructor
   ·intro h;omega
   ·intro h
    have:n*1≤n*((nB l).length:Int):=Int.mul_le_mul_of_nonneg_left (by omega) (by omega)
    omega
 refine (rrepeat_ok l s n hl h64).mono fun r ro h=>?_
 rw [e1] at h
 rcases h with ⟨h1,l',sg',e',a,b,h2,h3,h4⟩ | h
 ·refine .inl ⟨h1,l',sg',e',a,b,?_,h3,h4⟩
  have h5:=of_decide_eq_true h1
  rw [Int.le_ediv_iff_mul_le (by omega)] at h5
  have h6:n≤200:=by
   have:n*1≤n*((nB l).length:Int):=Int.mul_le_mul_of_nonneg_left (by omega) (by omega)
   omega
  rw [show (min n 200).toNat=n.toNat by omega] at h2 hc
  rw [h2]
  refine gu_ext (by rw [hc.1,repL_len,Nat.mul_comm]) fun i hi=>?_
  rw [hc.1] at hi
  rw [hc.2 i hi,repL_get (by rw [Nat.mul_comm];exact hi)]
 ·exact .inr h
def stP (l0 l1 l2 l3 l4 l5 l6 l7:List Int) (s0 s1 s2 s3 s4 s5 s6 s7:Bool) (i:Nat):SX.St:=⟨(T.nil.set 0 (SV.r 2 [.s 0,.b s0,.s 1,.b s1,.s 2,.b s2,.s 3,.b s3,.s 4,.b s4,.s 5,.b s5,.s 6,.b s6,.s 7,.b s7])).set 2 (.n .i64 i),[.u l0,.u l1,.u l2,.u l3,.u l4,.u l5,.u l6,.u l7]⟩
theorem spoil8_ok (l0 l1 l2 l3 l4 l5 l6 l7:List Int) (s0 s1 s2 s3 s4 s5 s6 s7:Bool) (h0:l0.length<2^20) (h1:l1.length<2^20) (h2:l2.length<2^20) (h3:l3.length<2^20) (h4:l4.length<2^20) (h5:l5.length<2^20) (h6:l6.length<2^20) (h7:l7.length<2^20):FvC CX TB (.f 65 [] []) [.r 2 [.s 0,.b s0,.s 1,.b s1,.s 2,.b s2,.s 3,.b s3,.s 4,.b s4,.s 5,.b s5,.s 6,.b s6,.s 7,.b s7]] [.u l0,.u l1,.u l2,.u l3,.u l4,.u l5,.u l6,.u l7] (fun r ro=>r=.t []∧ro=[]):=by
 refine fn_ok rfl rfl fun B D G hG q hq=>?_
 cbv
 refine lp_le hG (s':=stP l0 l1 l2 l3 l4 l5 l6 l7 s0 s1 s2 s3 s4 s5 s6 s7 0) (by constructor<;>cbv<;>simp) ?_
 refine lp_one hG ?_
 cbv
 refine lp hG (α:=Int×List Int) (fun p=>∃ n:Nat,p.1=(n:Int)∧n≤l0.length∧p.2.length=l0.length) (fun p=>l0.length-p.1.toNat) (fun s p=>(s.put (some 3) (.i .i64 p.1)).setO 0 (.u p.2)) (0,l0) ⟨0,rfl,Nat.zero_le _,rfl⟩ (by constructor<;>cbv<;>simp) ?_
 rintro ⟨j0,L0⟩ ⟨n0,hj0,hn0,hL0⟩
 have hL0:L0.length=l0.length:=hL0
 cbv
 have hj0:j0=(n0:Int):=hj0
 refine SX.ite hG (fun g0=>?_) (fun g0=>?_)
 ·have g0:n0<l0.length:=by
   rw [hG,hj0] at g0
   have g0:(n0:Int)<(L0.length:Int):=of_decide_eq_true g0
   omega
  have v1:G.ix j0 (G.lu L0):=by rw [hG,hj0];show 0≤(n0:Int)∧(n0:Int)<(L0.length:Int);omega
  refine ⟨v1,v1,?_⟩
  have hnx:(G.su L0 j0 (Int.ofNat 99)).length=l0.length:=by subst hG;show (List.set _ _ _).length=_;simp [hL0]
  exact ⟨(G.ar .add .i64 j0 (Int.ofNat 1),G.su L0 j0 (Int.ofNat 99)),⟨n0+1,inc hG hj0 (by omega),g0,hnx⟩,mu hj0 (inc hG hj0 (by omega)) g0,by constructor<;>cbv<;>simp⟩
 ·skip
  refine lp_le hG (s':=stP L0 l1 l2 l3 l4 l5 l6 l7 s0 s1 s2 s3 s4 s5 s6 s7 1) (by constructor<;>cbv<;>simp) ?_
  refine lp_one hG ?_
  cbv
  refine lp hG (α:=Int×List Int) (fun p=>∃ n:Nat,p.1=(n:Int)∧n≤l1.length∧p.2.length=l1.length) (fun p=>l1.length-p.1.toNat) (fun s p=>(s.put (some 3) (.i .i64 p.1)).setO 1 (.u p.2)) (0,l1) ⟨0,rfl,Nat.zero_le _,rfl⟩ (by constructor<;>cbv<;>simp) ?_
  rintro ⟨j1,L1⟩ ⟨n1,hj1,hn1,hL1⟩
  have hL1:L1.length=l1.length:=hL1
  cbv
  have hj1:j1=(n1:Int):=hj1
  refine SX.ite hG (fun g1=>?_) (fun g1=>?_)
  ·have g1:n1<l1.length:=by
    rw [hG,hj1] at g1
    have g1:(n1:Int)<(L1.length:Int):=of_decide_eq_true g1
    omega
   have v1:G.ix j1 (G.lu L1):=by rw [hG,hj1];show 0≤(n1:Int)∧(n1:Int)<(L1.length:Int);omega
   refine ⟨v1,v1,?_⟩
   have hnx:(G.su L1 j1 (Int.ofNat 99)).length=l1.length:=by subst hG;show (List.set _ _ _).length=_;simp [hL1]
   exact ⟨(G.ar .add .i64 j1 (Int.ofNat 1),G.su L1 j1 (Int.ofNat 99)),⟨n1+1,inc hG hj1 (by omega),g1,hnx⟩,mu hj1 (inc hG hj1 (by omega)) g1,by constructor<;>cbv<;>simp⟩
  ·skip
   refine lp_le hG (s':=stP L0 L1 l2 l3 l4 l5 l6 l7 s0 s1 s2 s3 s4 s5 s6 s7 2) (by constructor<;>cbv<;>simp) ?_
   refine lp_one hG ?_
   cbv
   refine lp hG (α:=Int×List Int) (fun p=>∃ n:Nat,p.1=(n:Int)∧n≤l2.length∧p.2.length=l2.length) (fun p=>l2.length-p.1.toNat) (fun s p=>(s.put (some 3) (.i .i64 p.1)).setO 2 (.u p.2)) (0,l2) ⟨0,rfl,Nat.zero_le _,rfl⟩ (by constructor<;>cbv<;>simp) ?_
   rintro ⟨j2,L2⟩ ⟨n2,hj2,hn2,hL2⟩
   have hL2:L2.length=l2.length:=hL2
   cbv
   have hj2:j2=(n2:Int):=hj2
   refine SX.ite hG (fun g2=>?_) (fun g2=>?_)
   ·have g2:n2<l2.length:=by
     rw [hG,hj2] at g2
     have g2:(n2:Int)<(L2.length:Int):=of_decide_eq_true g2
     omega
    have v1:G.ix j2 (G.lu L2):=by rw [hG,hj2];show 0≤(n2:Int)∧(n2:Int)<(L2.length:Int);omega
    refine ⟨v1,v1,?_⟩
    have hnx:(G.su L2 j2 (Int.ofNat 99)).length=l2.length:=by subst hG;show (List.set _ _ _).length=_;simp [hL2]
    exact ⟨(G.ar .add .i64 j2 (Int.ofNat 1),G.su L2 j2 (Int.ofNat 99)),⟨n2+1,inc hG hj2 (by omega),g2,hnx⟩,mu hj2 (inc hG hj2 (by omega)) g2,by constructor<;>cbv<;>simp⟩
   ·skip
    refine lp_le hG (s':=stP L0 L1 L2 l3 l4 l5 l6 l7 s0 s1 s2 s3 s4 s5 s6 s7 3) (by constructor<;>cbv<;>simp) ?_
    refine lp_one hG ?_
    cbv
    refine lp hG (α:=Int×List Int) (fun p=>∃ n:Nat,p.1=(n:Int)∧n≤l3.length∧p.2.length=l3.length) (fun p=>l3.length-p.1.toNat) (fun s p=>(s.put (some 3) (.i .i64 p.1)).setO 3 (.u p.2)) (0,l3) ⟨0,rfl,Nat.zero_le _,rfl⟩ (by constructor<;>cbv<;>simp) ?_
    rintro ⟨j3,L3⟩ ⟨n3,hj3,hn3,hL3⟩
    have hL3:L3.length=l3.length:=hL3
    cbv
    have hj3:j3=(n3:Int):=hj3
    refine SX.ite hG (fun g3=>?_) (fun g3=>?_)
    ·have g3:n3<l3.length:=by
      rw [hG,hj3] at g3
      have g3:(n3:Int)<(L3.length:Int):=of_decide_eq_true g3
      omega
     have v1:G.ix j3 (G.lu L3):=by rw [hG,hj3];show 0≤(n3:Int)∧(n3:Int)<(L3.length:Int);omega
     refine ⟨v1,v1,?_⟩
     have hnx:(G.su L3 j3 (Int.ofNat 99)).length=l3.length:=by subst hG;show (List.set _ _ _).length=_;simp [hL3]
     exact ⟨(G.ar .add .i64 j3 (Int.ofNat 1),G.su L3 j3 (Int.ofNat 99)),⟨n3+1,inc hG hj3 (by omega),g3,hnx⟩,mu hj3 (inc hG hj3 (by omega)) g3,by constructor<;>cbv<;>simp⟩
    ·skip
     refine lp_le hG (s':=stP L0 L1 L2 L3 l4 l5 l6 l7 s0 s1 s2 s3 s4 s5 s6 s7 4) (by constructor<;>cbv<;>simp) ?_
     refine lp_one hG ?_
     cbv
     refine lp hG (α:=Int×List Int) (fun p=>∃ n:Nat,p.1=(n:Int)∧n≤l4.length∧p.2.length=l4.length) (fun p=>l4.length-p.1.toNat) (fun s p=>(s.put (some 3) (.i .i64 p.1)).setO 4 (.u p.2)) (0,l4) ⟨0,rfl,Nat.zero_le _,rfl⟩ (by constructor<;>cbv<;>simp) ?_
     rintro ⟨j4,L4⟩ ⟨n4,hj4,hn4,hL4⟩
     have hL4:L4.length=l4.length:=hL4
     cbv
     have hj4:j4=(n4:Int):=hj4
     refine SX.ite hG (fun g4=>?_) (fun g4=>?_)
     ·have g4:n4<l4.length:=by
       rw [hG,hj4] at g4
       have g4:(n4:Int)<(L4.length:Int):=of_decide_eq_true g4
       omega
      have v1:G.ix j4 (G.lu L4):=by rw [hG,hj4];show 0≤(n4:Int)∧(n4:Int)<(L4.length:Int);omega
      refine ⟨v1,v1,?_⟩
      have hnx:(G.su L4 j4 (Int.ofNat 99)).length=l4.length:=by subst hG;show (List.set _ _ _).length=_;simp [hL4]
      exact ⟨(G.ar .add .i64 j4 (Int.ofNat 1),G.su L4 j4 (Int.ofNat 99)),⟨n4+1,inc hG hj4 (by omega),g4,hnx⟩,mu hj4 (inc hG hj4 (by omega)) g4,by constructor<;>cbv<;>simp⟩
     ·skip
      refine lp_le hG (s':=stP L0 L1 L2 L3 L4 l5 l6 l7 s0 s1 s2 s3 s4 s5 s6 s7 5) (by constructor<;>cbv<;>simp) ?_
      refine lp_one hG ?_
      cbv
      refine lp hG (α:=Int×List Int) (fun p=>∃ n:Nat,p.1=(n:Int)∧n≤l5.length∧p.2.length=l5.length) (fun p=>l5.length-p.1.toNat) (fun s p=>(s.put (some 3) (.i .i64 p.1)).setO 5 (.u p.2)) (0,l5) ⟨0,rfl,Nat.zero_le _,rfl⟩ (by constructor<;>cbv<;>simp) ?_
      rintro ⟨j5,L5⟩ ⟨n5,hj5,hn5,hL5⟩
      have hL5:L5.length=l5.length:=hL5
      cbv
      have hj5:j5=(n5:Int):=hj5
      refine SX.ite hG (fun g5=>?_) (fun g5=>?_)
      ·have g5:n5<l5.length:=by
        rw [hG,hj5] at g5
        have g5:(n5:Int)<(L5.length:Int):=of_decide_eq_true g5
        omega
       have v1:G.ix j5 (G.lu L5):=by rw [hG,hj5];show 0≤(n5:Int)∧(n5:Int)<(L5.length:Int);omega
       refine ⟨v1,v1,?_⟩
       have hnx:(G.su L5 j5 (Int.ofNat 99)).length=l5.length:=by subst hG;show (List.set _ _ _).length=_;simp [hL5]
       exact ⟨(G.ar .add .i64 j5 (Int.ofNat 1),G.su L5 j5 (Int.ofNat 99)),⟨n5+1,inc hG hj5 (by omega),g5,hnx⟩,mu hj5 (inc hG hj5 (by omega)) g5,by constructor<;>cbv<;>simp⟩
      ·skip
       refine lp_le hG (s':=stP L0 L1 L2 L3 L4 L5 l6 l7 s0 s1 s2 s3 s4 s5 s6 s7 6) (by constructor<;>cbv<;>simp) ?_
       refine lp_one hG ?_
       cbv
       refine lp hG (α:=Int×List Int) (fun p=>∃ n:Nat,p.1=(n:Int)∧n≤l6.length∧p.2.length=l6.length) (fun p=>l6.length-p.1.toNat) (fun s p=>(s.put (some 3) (.i .i64 p.1)).setO 6 (.u p.2)) (0,l6) ⟨0,rfl,Nat.zero_le _,rfl⟩ (by constructor<;>cbv<;>simp) ?_
       rintro ⟨j6,L6⟩ ⟨n6,hj6,hn6,hL6⟩
       have hL6:L6.length=l6.length:=hL6
       cbv
       have hj6:j6=(n6:Int):=hj6
       refine SX.ite hG (fun g6=>?_) (fun g6=>?_)
       ·have g6:n6<l6.length:=by
         rw [hG,hj6] at g6
         have g6:(n6:Int)<(L6.length:Int):=of_decide_eq_true g6
         omega
        have v1:G.ix j6 (G.lu L6):=by rw [hG,hj6];show 0≤(n6:Int)∧(n6:Int)<(L6.length:Int);omega
        refine ⟨v1,v1,?_⟩
        have hnx:(G.su L6 j6 (Int.ofNat 99)).length=l6.length:=by subst hG;show (List.set _ _ _).length=_;simp [hL6]
        exact ⟨(G.ar .add .i64 j6 (Int.ofNat 1),G.su L6 j6 (Int.ofNat 99)),⟨n6+1,inc hG hj6 (by omega),g6,hnx⟩,mu hj6 (inc hG hj6 (by omega)) g6,by constructor<;>cbv<;>simp⟩
       ·skip
        refine lp_le hG (s':=stP L0 L1 L2 L3 L4 L5 L6 l7 s0 s1 s2 s3 s4 s5 s6 s7 7) (by constructor<;>cbv<;>simp) ?_
        refine lp_one hG ?_
        cbv
        refine lp hG (α:=Int×List Int) (fun p=>∃ n:Nat,p.1=(n:Int)∧n≤l7.length∧p.2.length=l7.length) (fun p=>l7.length-p.1.toNat) (fun s p=>(s.put (some 3) (.i .i64 p.1)).setO 7 (.u p.2)) (0,l7) ⟨0,rfl,Nat.zero_le _,rfl⟩ (by constructor<;>cbv<;>simp) ?_
        rintro ⟨j7,L7⟩ ⟨n7,hj7,hn7,hL7⟩
        have hL7:L7.length=l7.length:=hL7
        cbv
        have hj7:j7=(n7:Int):=hj7
        refine SX.ite hG (fun g7=>?_) (fun g7=>?_)
        ·have g7:n7<l7.length:=by
          rw [hG,hj7] at g7
          have g7:(n7:Int)<(L7.length:Int):=of_decide_eq_true g7
          omega
         have v1:G.ix j7 (G.lu L7):=by rw [hG,hj7];show 0≤(n7:Int)∧(n7:Int)<(L7.length:Int);omega
         refine ⟨v1,v1,?_⟩
         have hnx:(G.su L7 j7 (Int.ofNat 99)).length=l7.length:=by subst hG;show (List.set _ _ _).length=_;simp [hL7]
         exact ⟨(G.ar .add .i64 j7 (Int.ofNat 1),G.su L7 j7 (Int.ofNat 99)),⟨n7+1,inc hG hj7 (by omega),g7,hnx⟩,mu hj7 (inc hG hj7 (by omega)) g7,by constructor<;>cbv<;>simp⟩
        ·refine lp_le hG (s':=stP L0 L1 L2 L3 L4 L5 L6 L7 s0 s1 s2 s3 s4 s5 s6 s7 8) (by constructor<;>cbv<;>simp) ?_
         refine lp_one hG ?_
         cbv
         exact hq _ _ ⟨rfl,rfl⟩
theorem len_if {c:Bool} {L:List Int} (h:c=true→L.length≤128):(if c then L else []).length<2^20:=by
 cases c with
 | true=>have:=h rfl;show L.length<_;omega
 | false=>show ([]:List Int).length<_;simp
theorem okw_n {m:Int} (h:okW m=true):m.toNat≤128:=by
 unfold okW at h
 simp only [Bool.and_eq_true,decide_eq_true_eq] at h
 omega
end Go.Proofs.YtdgbdkfoeaollaaGreatDoor.V
end
