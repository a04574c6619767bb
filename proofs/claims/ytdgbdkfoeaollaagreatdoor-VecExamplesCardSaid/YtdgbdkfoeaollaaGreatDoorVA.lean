/- The seat's functions as contracts tell them: tables, Concat told from without, numbers. -/
import Derived.Test.YtdgbdkfoeaollaaGreatDoorIR
import Derived.Test.YtdgbdkfoeaollaaGreatDoorALe
import Derived.KernelRfl
section
namespace Go.Proofs.YtdgbdkfoeaollaaGreatDoor.V
open Go Go.AL Go.SX
def andsL:List Int:=[0,0,0,0,0,1,2,2,0,2,2,2,0,2,2,2]
def orsL:List Int:=[0,1,2,2,1,1,1,1,2,1,2,2,2,1,2,2]
def xorsL:List Int:=[0,1,2,2,1,0,2,2,2,2,2,2,2,2,2,2]
def notsL:List Int:=[1,0,2,2]
def TB:List (List Int):=[orsL,notsL,andsL,xorsL]
def catN (N:Nat):List Value→AH→Option (Value×AH):=catEv (evF IR.ft noExt N) N N 165 IR.back IR.cat
def extK:Nat→Option (List Value→AH→Option (Value×AH)):=fun f=>if f=24 then some (catN 200) else none
noncomputable def extV (k:Nat):Option (List Value→AH→Option (Value×AH)):=if k=24 then some (anyN catN) else if k=11 then some (closedE IR.ft extK 4 1000 11) else none
noncomputable abbrev CX:Ctx:=⟨IR.ft,extV⟩
theorem catN_sim (N:Nat):SimG Tryz.prog 24 (catN N):=catEv_simG IR.mixed (evF_sim IR.mixed IR.ft_ok (fun f g hg=>by cases hg) N) IR.back_ok IR.cat_ok
theorem extK_sim:∀ f g,extK f=some g→SimG Tryz.prog f g:=by
 intro f g hg
 unfold extK at hg
 split at hg
 ·rename_i hf
  subst hf
  obtain rfl:=Option.some.inj hg
  exact catN_sim 200
 ·cases hg
theorem four:Tryz.prog.globals.size=4:=by kernel_rfl
theorem extV_sim:∀ f g,extV f=some g→SimG Tryz.prog f g:=by
 intro f g hg
 unfold extV at hg
 split at hg
 ·rename_i hf
  subst hf
  obtain rfl:=Option.some.inj hg
  exact anyN_sim catN_sim
 ·split at hg
  ·rename_i hf
   subst hf
   obtain rfl:=Option.some.inj hg
   have:=closedE_sim IR.mixed extK_sim IR.ft_ok 1000 11
   rw [four] at this
   exact this
  ·cases hg
theorem fwi {x:Int} (h:-(2^62)≤x∧x<2^62):fwrap .i64 x=x:=by
 rw [fwrap_eq]
 unfold IntKind.wrap
 simp only [show IntKind.bits .i64=64 from rfl,show IntKind.signed .i64=true from rfl,Bool.true_and,decide_eq_true_eq,Nat.reduceSub]
 split<;>omega
theorem inc {B:AH} {D:Bs} {G:Sg} (hG:G=std CX TB B D) {j:Int} {n:Nat} (hj:j=(n:Int)) (hn:n<2^40):G.ar .add .i64 j (Int.ofNat 1)=((n+1:Nat):Int):=by
 subst hG hj
 show fwrap .i64 ((n:Int)+1)=_
 rw [fwi (by omega)];rfl
theorem mu {j j':Int} {n N:Nat} (hj:j=(n:Int)) (hj':j'=((n+1:Nat):Int)) (h:n<N):N-j'.toNat<N-j.toNat:=by
 subst hj hj'
 rw [Int.toNat_natCast,Int.toNat_natCast];omega
theorem addi {B:AH} {D:Bs} {G:Sg} (hG:G=std CX TB B D) {a b:Int} (h:-(2^62)≤a+b∧a+b<2^62):G.ar .add .i64 a b=a+b:=by
 subst hG;exact fwi h
theorem subi {B:AH} {D:Bs} {G:Sg} (hG:G=std CX TB B D) {a b:Int} (h:-(2^62)≤a-b∧a-b<2^62):G.ar .sub .i64 a b=a-b:=by
 subst hG;exact fwi h
end Go.Proofs.YtdgbdkfoeaollaaGreatDoor.V
end
section
set_option linter.unusedSimpArgs false
set_option linter.unusedVariables false
namespace Go.Proofs.YtdgbdkfoeaollaaGreatDoor.V
open Go Go.AL Go.SX
def bnorm (x:Int):Int:=if x≤3 then x else 2
theorem bnorm_r {x:Int} (h:0≤x):0≤bnorm x∧bnorm x≤3:=by unfold bnorm;split<;>omega
def bpair (a b:Int):Int:=4*bnorm a+bnorm b
def bAnd (a b:Int):Int:=gu andsL (bpair a b)
def bOr (a b:Int):Int:=gu orsL (bpair a b)
def bXor (a b:Int):Int:=gu xorsL (bpair a b)
def bNot (a:Int):Int:=gu notsL (bnorm a)
def bBuf (a:Int):Int:=bNot (bNot a)
def bEq (a b:Int):Int:=bNot (bXor a b)
def bKn (a:Int):Bool:=decide (a≤1)
def bSame (a b:Int):Bool:=bnorm a == bnorm b
def bLeq (a b:Int):Bool:=bSame a b||(!bKn a&&bKn b)
def bMux (s a b:Int):Int:=if s=1 then bBuf a else if s=0 then bBuf b else if bEq a b=1 then a else 2
def ofB (b:Bool):Int:=if b then 1 else 0
def V4 (x:Int):Prop:=0≤x∧x≤3
theorem V4.cases {x:Int} (h:V4 x):x=0∨x=1∨x=2∨x=3:=by unfold V4 at h;omega
theorem pair_r {a b:Int} (ha:0≤a) (hb:0≤b):0≤bpair a b∧bpair a b<16:=by
 have:=bnorm_r ha;have:=bnorm_r hb;unfold bpair;omega
theorem tab4 {l:List Int} (h:l.all (fun x=>decide (0≤x)&&decide (x≤3))=true) {x:Int} (hx:0≤x∧x<l.length):V4 (gu l x):=by
 have hm:=List.mem_of_getElem? (gu_get hx)
 have:=List.all_eq_true.1 h _ hm
 simp only [Bool.and_eq_true,decide_eq_true_eq] at this
 exact this
theorem bAnd_4 {a b:Int} (ha:0≤a) (hb:0≤b):V4 (bAnd a b):=tab4 (by decide) (pair_r ha hb)
theorem bOr_4 {a b:Int} (ha:0≤a) (hb:0≤b):V4 (bOr a b):=tab4 (by decide) (pair_r ha hb)
theorem bXor_4 {a b:Int} (ha:0≤a) (hb:0≤b):V4 (bXor a b):=tab4 (by decide) (pair_r ha hb)
theorem bNot_4 {a:Int} (ha:0≤a):V4 (bNot a):=tab4 (by decide) (by have:=bnorm_r ha;simp [notsL];omega)
theorem bBuf_4 {a:Int} (ha:0≤a):V4 (bBuf a):=bNot_4 (bNot_4 ha).1
theorem bEq_4 {a b:Int} (ha:0≤a) (hb:0≤b):V4 (bEq a b):=bNot_4 (bXor_4 ha hb).1
theorem ofB_4 (b:Bool):V4 (ofB b):=by cases b<;>simp [ofB,V4]
theorem valid_ok (x:Int):FvC CX TB (.f 110 [] []) [.i .u8 x] [] (RB (decide (x≤3))):=by
 refine fn_ok rfl rfl fun B D G hG q hq=>?_
 cbv
 subst hG
 exact hq _ _ ⟨_,rfl,rfl,rfl⟩
theorem known_ok (x:Int):FvC CX TB (.f 94 [] []) [.i .u8 x] [] (RB (bKn x)):=by
 refine fn_ok rfl rfl fun B D G hG q hq=>?_
 cbv
 subst hG
 exact hq _ _ ⟨_,rfl,rfl,rfl⟩
theorem bnorm_ok (x:Int):FvC CX TB (.f 162 [] []) [.i .u8 x] [] (RI .u8 (bnorm x)):=by
 refine fn_ok rfl rfl fun B D G hG q hq=>?_
 cbv
 refine call hG [] (valid_ok _) ⟨rfl,rfl,rfl⟩ ?_
 rintro _ _ ⟨c,rfl,rfl,hc⟩
 cbv
 refine SX.ite hG (fun h=>hq _ _ ⟨_,rfl,rfl,?_⟩) (fun h=>hq _ _ ⟨_,rfl,rfl,?_⟩)<;>subst hG hc<;>simp [std] at h<;>unfold bnorm<;>simp<;>omega
theorem bpair_ok (a b:Int) (ha:0≤a) (hb:0≤b):FvC CX TB (.f 164 [] []) [.i .u8 a,.i .u8 b] [] (RI .i64 (bpair a b)):=by
 refine fn_ok rfl rfl fun B D G hG q hq=>?_
 cbv
 refine call hG [] (bnorm_ok _) ⟨rfl,rfl,rfl⟩ ?_
 rintro _ _ ⟨x,rfl,rfl,hx⟩
 cbv
 refine call hG [] (bnorm_ok _) ⟨rfl,rfl,rfl⟩ ?_
 rintro _ _ ⟨y,rfl,rfl,hy⟩
 cbv
 subst hG
 have h1:=bnorm_r ha
 have h2:=bnorm_r hb
 rw [←hx] at h1
 rw [←hy] at h2
 refine hq _ _ ⟨_,rfl,rfl,?_⟩
 simp only [std,arS]
 rw [fwi (x:=x) (by omega),fwi (x:=y) (by omega)]
 show fwrap .i64 (fwrap .i64 (4*x)+y)=_
 rw [fwi (x:=4*x) (by omega),fwi (by omega),hx,hy]
 rfl
theorem bAnd_ok (a b:Int) (ha:0≤a) (hb:0≤b):FvC CX TB (.f 124 [] []) [.i .u8 a,.i .u8 b] [] (RI .u8 (bAnd a b)):=by
 refine fn_ok rfl rfl fun B D G hG q hq=>?_
 cbv
 refine call hG [] (bpair_ok _ _ ha hb) ⟨rfl,rfl,rfl⟩ ?_
 rintro _ _ ⟨x,rfl,rfl,hx⟩
 cbv
 have h1:=pair_r ha hb
 rw [←hx] at h1
 subst hG
 exact ⟨h1,h1,hq _ _ ⟨_,rfl,rfl,by rw [hx];rfl⟩⟩
theorem bOr_ok (a b:Int) (ha:0≤a) (hb:0≤b):FvC CX TB (.f 97 [] []) [.i .u8 a,.i .u8 b] [] (RI .u8 (bOr a b)):=by
 refine fn_ok rfl rfl fun B D G hG q hq=>?_
 cbv
 refine call hG [] (bpair_ok _ _ ha hb) ⟨rfl,rfl,rfl⟩ ?_
 rintro _ _ ⟨x,rfl,rfl,hx⟩
 cbv
 have h1:=pair_r ha hb
 rw [←hx] at h1
 subst hG
 exact ⟨h1,h1,hq _ _ ⟨_,rfl,rfl,by rw [hx];rfl⟩⟩
theorem bXor_ok (a b:Int) (ha:0≤a) (hb:0≤b):FvC CX TB (.f 125 [] []) [.i .u8 a,.i .u8 b] [] (RI .u8 (bXor a b)):=by
 refine fn_ok rfl rfl fun B D G hG q hq=>?_
 cbv
 refine call hG [] (bpair_ok _ _ ha hb) ⟨rfl,rfl,rfl⟩ ?_
 rintro _ _ ⟨x,rfl,rfl,hx⟩
 cbv
 have h1:=pair_r ha hb
 rw [←hx] at h1
 subst hG
 exact ⟨h1,h1,hq _ _ ⟨_,rfl,rfl,by rw [hx];rfl⟩⟩
theorem bNot_ok (a:Int) (ha:0≤a):FvC CX TB (.f 111 [] []) [.i .u8 a] [] (RI .u8 (bNot a)):=by
 refine fn_ok rfl rfl fun B D G hG q hq=>?_
 cbv
 refine call hG [] (bnorm_ok _) ⟨rfl,rfl,rfl⟩ ?_
 rintro _ _ ⟨x,rfl,rfl,hx⟩
 cbv
 have h1:=bnorm_r ha
 rw [←hx] at h1
 have h2:0≤x∧x<4:=by omega
 subst hG
 exact ⟨h2,h2,hq _ _ ⟨_,rfl,rfl,by rw [hx];rfl⟩⟩
theorem bBuf_ok (a:Int) (ha:0≤a):FvC CX TB (.f 92 [] []) [.i .u8 a] [] (RI .u8 (bBuf a)):=by
 refine fn_ok rfl rfl fun B D G hG q hq=>?_
 cbv
 refine call hG [] (bNot_ok _ ha) ⟨rfl,rfl,rfl⟩ ?_
 rintro _ _ ⟨x,rfl,rfl,hx⟩
 cbv
 refine call hG [] (bNot_ok x (by rw [hx];exact (bNot_4 ha).1)) ⟨rfl,rfl,rfl⟩ ?_
 rintro _ _ ⟨y,rfl,rfl,hy⟩
 cbv
 exact hq _ _ ⟨_,rfl,rfl,by rw [hy,hx];rfl⟩
theorem bEq_ok (a b:Int) (ha:0≤a) (hb:0≤b):FvC CX TB (.f 150 [] []) [.i .u8 a,.i .u8 b] [] (RI .u8 (bEq a b)):=by
 refine fn_ok rfl rfl fun B D G hG q hq=>?_
 cbv
 refine call hG [] (bXor_ok _ _ ha hb) ⟨rfl,rfl,rfl⟩ ?_
 rintro _ _ ⟨x,rfl,rfl,hx⟩
 cbv
 refine call hG [] (bNot_ok x (by rw [hx];exact (bXor_4 ha hb).1)) ⟨rfl,rfl,rfl⟩ ?_
 rintro _ _ ⟨y,rfl,rfl,hy⟩
 cbv
 exact hq _ _ ⟨_,rfl,rfl,by rw [hy,hx];rfl⟩
theorem bSame_ok (a b:Int):FvC CX TB (.f 93 [] []) [.i .u8 a,.i .u8 b] [] (RB (bSame a b)):=by
 refine fn_ok rfl rfl fun B D G hG q hq=>?_
 cbv
 refine call hG [] (bnorm_ok _) ⟨rfl,rfl,rfl⟩ ?_
 rintro _ _ ⟨x,rfl,rfl,hx⟩
 cbv
 refine call hG [] (bnorm_ok _) ⟨rfl,rfl,rfl⟩ ?_
 rintro _ _ ⟨y,rfl,rfl,hy⟩
 cbv
 subst hG
 exact hq _ _ ⟨_,rfl,rfl,by rw [hx,hy];rfl⟩
theorem bLeq_ok (a b:Int):FvC CX TB (.f 16 [] []) [.i .u8 a,.i .u8 b] [] (RB (bLeq a b)):=by
 refine fn_ok rfl rfl fun B D G hG q hq=>?_
 cbv
 refine call hG [] (bSame_ok _ _) ⟨rfl,rfl,rfl⟩ ?_
 rintro _ _ ⟨x,rfl,rfl,hx⟩
 cbv
 refine SX.ite hG (fun h1=>?_) (fun h1=>?_)
 ·exact hq _ _ ⟨_,rfl,rfl,by unfold bLeq;rw [←hx,h1];rfl⟩
 refine call hG [] (known_ok _) ⟨rfl,rfl,rfl⟩ ?_
 rintro _ _ ⟨y,rfl,rfl,hy⟩
 cbv
 refine SX.ite hG (fun h2=>?_) (fun h2=>?_)
 ·refine call hG [] (known_ok _) ⟨rfl,rfl,rfl⟩ ?_
  rintro _ _ ⟨z,rfl,rfl,hz⟩
  cbv
  exact hq _ _ ⟨_,rfl,rfl,by subst hG;unfold bLeq;rw [←hx,h1,←hy,←hz];simp [std] at h2;simp [h2]⟩
 ·exact hq _ _ ⟨_,rfl,rfl,by subst hG;unfold bLeq;rw [←hx,h1,←hy];simp [std] at h2;simp [h2]⟩
theorem ofB_ok (b:Bool):FvC CX TB (.f 86 [] []) [.b b] [] (RI .u8 (ofB b)):=by
 refine fn_ok rfl rfl fun B D G hG q hq=>?_
 cbv
 refine SX.ite hG (fun h=>hq _ _ ⟨_,rfl,rfl,?_⟩) (fun h=>hq _ _ ⟨_,rfl,rfl,?_⟩)<;>rw [h]<;>rfl
theorem bMux_ok (s a b:Int) (ha:0≤a) (hb:0≤b):FvC CX TB (.f 101 [] []) [.i .u8 s,.i .u8 a,.i .u8 b] [] (RI .u8 (bMux s a b)):=by
 refine fn_ok rfl rfl fun B D G hG q hq=>?_
 cbv
 refine SX.ite hG (fun h1=>?_) (fun h1=>?_)
 ·refine call hG [] (bBuf_ok _ ha) ⟨rfl,rfl,rfl⟩ ?_
  rintro _ _ ⟨x,rfl,rfl,hx⟩
  cbv
  exact hq _ _ ⟨_,rfl,rfl,by subst hG;simp [std,cmpS] at h1;simp [bMux,h1,hx]⟩
 refine SX.ite hG (fun h2=>?_) (fun h2=>?_)
 ·refine call hG [] (bBuf_ok _ hb) ⟨rfl,rfl,rfl⟩ ?_
  rintro _ _ ⟨x,rfl,rfl,hx⟩
  cbv
  exact hq _ _ ⟨_,rfl,rfl,by subst hG;simp [std,cmpS] at h1 h2;simp [bMux,h1,h2,hx]⟩
 refine call hG [] (bEq_ok _ _ ha hb) ⟨rfl,rfl,rfl⟩ ?_
 rintro _ _ ⟨x,rfl,rfl,hx⟩
 cbv
 refine SX.ite hG (fun h3=>?_) (fun h3=>?_)
 ·exact hq _ _ ⟨_,rfl,rfl,by subst hG;simp [std,cmpS] at h1 h2 h3;simp [bMux,h1,h2,h3,←hx]⟩
 ·exact hq _ _ ⟨_,rfl,rfl,by subst hG;simp [std,cmpS] at h1 h2 h3;simp [bMux,h1,h2,h3,←hx]⟩
end Go.Proofs.YtdgbdkfoeaollaaGreatDoor.V
end
section
set_option linter.unusedSimpArgs false
set_option linter.unusedVariables false
namespace Go.Proofs.YtdgbdkfoeaollaaGreatDoor.V
open Go Go.AL Go.SX
theorem clone_ok (l:List Int) (hl:l≠[]) (hn:l.length<2^20):FvC CX TB (.f 163 [] []) [.u l] [] (RU l):=by
 refine fn_ok rfl rfl fun B D G hG q hq=>?_
 cbv
 subst hG
 exact ⟨fun h=>absurd h hl,by simp only [std];omega,hq _ _ ⟨_,rfl,rfl,rfl⟩⟩
def chk (l:List Int):Int:=if l.length=0 then 4 else if 128<l.length then 5 else if l.all (fun x=>decide (x≤3)) then 0 else 1
theorem gu_mem {l:List Int} {n:Nat} (h:n<l.length):gu l n∈l:=by
 unfold gu
 rw [Int.toNat_natCast,List.getElem?_eq_getElem h]
 exact List.getElem_mem h
theorem gu_ext {l m:List Int} (h:l.length=m.length) (h2:∀ i:Nat,i<l.length→gu l i=gu m i):l=m:=by
 apply List.ext_getElem h
 intro i h3 h4
 have:=h2 i h3
 unfold gu at this
 rw [Int.toNat_natCast,List.getElem?_eq_getElem h3,List.getElem?_eq_getElem h4] at this
 exact this
theorem all_gu {l:List Int} {p:Int→Bool} (h:∀ i,i<l.length→p (gu l (i:Nat))=true):l.all p=true:=by
 rw [List.all_eq_true]
 intro x hx
 obtain ⟨i,hi,rfl⟩:=List.mem_iff_getElem.1 hx
 have:=h i hi
 unfold gu at this
 rwa [Int.toNat_natCast,List.getElem?_eq_getElem hi] at this
theorem check_ok (l:List Int) (s:Bool):FvC CX TB (.f 28 [] []) [.a [.u l,.b s]] [] (RI .i64 (chk l)):=by
 refine fn_ok rfl rfl fun B D G hG q hq=>?_
 cbv
 refine SX.ite hG (fun h1=>?_) (fun h1=>?_)
 ·have h1:l.length=0:=by simpa [hG,std,cmpS,arS,beqS] using h1
  exact hq _ _ ⟨_,rfl,rfl,by simp [chk,h1]⟩
 have h1:l.length≠0:=by simpa [hG,std,cmpS,arS,beqS] using h1
 refine SX.ite hG (fun h2=>?_) (fun h2=>?_)
 ·have h2:128<l.length:=by have hq_:=h2;simp [hG,std,cmpS,arS,beqS] at hq_;omega
  exact hq _ _ ⟨_,rfl,rfl,by rw [chk,if_neg h1,if_pos (by omega)];rfl⟩
 have h2:l.length≤128:=by have hq_:=h2;simp [hG,std,cmpS,arS,beqS] at hq_;omega
 have hchk:chk l=if l.all (fun x=>decide (x≤3)) then 0 else 1:=by rw [chk,if_neg h1,if_neg (by omega)]
 refine lp hG (α:=Int) (fun j=>∃ n:Nat,j=(n:Int)∧n≤l.length∧∀ i:Nat,i<n→gu l i≤3) (fun j=>l.length-j.toNat) (fun s j=>s.put (some 18) (.i .i64 j)) 0 ⟨0,rfl,Nat.zero_le _,by simp⟩ (by constructor<;>cbv<;>simp) ?_
 rintro j ⟨n,hj,hn,hi⟩
 cbv
 refine SX.ite hG (fun h3=>?_) (fun h3=>?_)
 ·have h3:n<l.length:=by simpa [hG,std,cmpS,arS,beqS,hj] using h3
  refine ⟨by simp [hG,std,hj,h3],?_⟩
  refine call hG [] (valid_ok _) ⟨rfl,rfl,rfl⟩ ?_
  rintro _ _ ⟨c,rfl,rfl,hc⟩
  cbv
  have hgu:G.gu l j=gu l n:=by rw [hG,hj];rfl
  rw [hgu] at hc
  refine SX.ite hG (fun h4=>?_) (fun h4=>?_)
  ·refine hq _ _ ⟨_,rfl,rfl,?_⟩
   rw [hchk,if_neg]
   ·rfl
   ·intro ha
    have:=List.all_eq_true.1 ha _ (gu_mem h3)
    simp [hG,std,hc] at h4 this
    omega
  ·exact ⟨G.ar .add .i64 j (Int.ofNat 1),⟨n+1,inc hG hj (by omega),h3,fun i hlt=>by rcases Nat.lt_succ_iff_lt_or_eq.1 hlt with h | rfl;exact hi i h;simpa [hG,std,hc] using h4⟩,mu hj (inc hG hj (by omega)) h3,by constructor<;>cbv<;>simp⟩
 ·have h3:l.length≤n:=by simpa [hG,std,cmpS,arS,beqS,hj] using h3
  refine hq _ _ ⟨_,rfl,rfl,?_⟩
  rw [hchk,if_pos (all_gu fun i hlt=>decide_eq_true (hi i (by omega)))]
  rfl
theorem equal_ok (l m:List Int) (hl:l.length<2^20):FvC CX TB (.f 131 [] []) [.u l,.u m] [] (RB (l == m)):=by
 refine fn_ok rfl rfl fun B D G hG q hq=>?_
 cbv
 refine SX.ite hG (fun h1=>?_) (fun h1=>?_)
 ·have h1:l.length≠m.length:=by have hq_:=h1;simp [hG,std,cmpS,arS,beqS] at hq_;omega
  exact hq _ _ ⟨_,rfl,rfl,by symm;simp;intro e;exact h1 (by rw [e])⟩
 have h1:l.length=m.length:=by have hq_:=h1;simp [hG,std,cmpS,arS,beqS] at hq_;omega
 refine lp hG (α:=Int) (fun j=>∃ n:Nat,j=(n:Int)∧n≤l.length∧∀ i:Nat,i<n→gu l i=gu m i) (fun j=>l.length-j.toNat) (fun s j=>s.put (some 13) (.i .i64 j)) 0 ⟨0,rfl,Nat.zero_le _,by simp⟩ (by constructor<;>cbv<;>simp) ?_
 rintro j ⟨n,hj,hn,hi⟩
 cbv
 refine SX.ite hG (fun h3=>?_) (fun h3=>?_)
 ·have h3:n<l.length:=by simpa [hG,std,cmpS,arS,beqS,hj] using h3
  refine ⟨by simp [hG,std,hj,h3],by simp [hG,std,hj];omega,okd hG rfl ?_⟩
  have hgu:G.gu l j=gu l n∧G.gu m j=gu m n:=by rw [hG,hj];exact ⟨rfl,rfl⟩
  refine SX.ite hG (fun h4=>?_) (fun h4=>?_)
  ·have h4:¬ G.gu l j=G.gu m j:=by simpa [hG,std,cmpS,arS,beqS] using h4
   rw [hgu.1,hgu.2] at h4
   exact hq _ _ ⟨_,rfl,rfl,by symm;simp;intro e;exact h4 (by rw [e])⟩
  ·have h4:G.gu l j=G.gu m j:=by simpa [hG,std,cmpS,arS,beqS] using h4
   rw [hgu.1,hgu.2] at h4
   exact ⟨G.ar .add .i64 j (Int.ofNat 1),⟨n+1,inc hG hj (by omega),h3,fun i hlt=>by rcases Nat.lt_succ_iff_lt_or_eq.1 hlt with h | rfl;exact hi i h;exact h4⟩,mu hj (inc hG hj (by omega)) h3,by constructor<;>cbv<;>simp⟩
 ·have h3:l.length≤n:=by simpa [hG,std,cmpS,arS,beqS,hj] using h3
  refine hq _ _ ⟨_,rfl,rfl,?_⟩
  symm
  simp only [beq_iff_eq]
  exact gu_ext h1 fun i hlt=>hi i (by omega)
def eqF (p:Int→Int→Bool) (l m:List Int):Bool:=decide (l.length=m.length)&&(List.range l.length).all fun i=>p (gu l (i:Nat)) (gu m (i:Nat))
theorem eqFunc_ok (l m:List Int) (hl:l.length<2^20) (k:Nat) (fs cs:List SV) (p:Int→Int→Bool) (hf:∀ x y,x∈l→y∈m→FvC CX TB (.fq k fs cs) [.i .u8 x,.i .u8 y] [] (RB (p x y))):FvC CX TB (.f 137 [] []) [.u l,.u m,.fq k fs cs] [] (RB (eqF p l m)):=by
 refine fn_ok rfl rfl fun B D G hG q hq=>?_
 cbv
 refine SX.ite hG (fun h1=>?_) (fun h1=>?_)
 ·have h1:l.length≠m.length:=by have hq_:=h1;simp [hG,std,cmpS,arS,beqS] at hq_;omega
  exact hq _ _ ⟨_,rfl,rfl,by simp [eqF,h1]⟩
 have h1:l.length=m.length:=by have hq_:=h1;simp [hG,std,cmpS,arS,beqS] at hq_;omega
 refine lp hG (α:=Int) (fun j=>∃ n:Nat,j=(n:Int)∧n≤l.length∧∀ i:Nat,i<n→p (gu l i) (gu m i)=true) (fun j=>l.length-j.toNat) (fun s j=>s.put (some 17) (.i .i64 j)) 0 ⟨0,rfl,Nat.zero_le _,by simp⟩ (by constructor<;>cbv<;>simp) ?_
 rintro j ⟨n,hj,hn,hi⟩
 cbv
 refine SX.ite hG (fun h3=>?_) (fun h3=>?_)
 ·have h3:n<l.length:=by simpa [hG,std,cmpS,arS,beqS,hj] using h3
  refine ⟨by simp [hG,std,hj,h3],by simp [hG,std,hj];omega,?_⟩
  have hgu:G.gu l j=gu l n∧G.gu m j=gu m n:=by rw [hG,hj];exact ⟨rfl,rfl⟩
  have hm1:G.gu l j∈l:=by rw [hgu.1];exact gu_mem h3
  have hm2:G.gu m j∈m:=by rw [hgu.2];exact gu_mem (by omega)
  refine callQ hG [] (hf _ _ hm1 hm2) ⟨rfl,rfl,rfl⟩ ?_
  rintro _ _ ⟨c,rfl,rfl,hc⟩
  cbv
  rw [hgu.1,hgu.2] at hc
  refine SX.ite hG (fun h4=>?_) (fun h4=>?_)
  ·have h4:c=false:=by simpa [hG,std,cmpS,arS,beqS] using h4
   refine hq _ _ ⟨_,rfl,rfl,?_⟩
   symm
   rw [Bool.eq_false_iff]
   intro ha
   simp only [eqF,Bool.and_eq_true,List.all_eq_true,List.mem_range] at ha
   rw [ha.2 n h3] at hc
   rw [hc] at h4;cases h4
  ·have h4:c=true:=by simpa [hG,std,cmpS,arS,beqS] using h4
   exact ⟨G.ar .add .i64 j (Int.ofNat 1),⟨n+1,inc hG hj (by omega),h3,fun i hlt=>by rcases Nat.lt_succ_iff_lt_or_eq.1 hlt with h | rfl;exact hi i h;rw [←hc];exact h4⟩,mu hj (inc hG hj (by omega)) h3,by constructor<;>cbv<;>simp⟩
 ·have h3:l.length≤n:=by simpa [hG,std,cmpS,arS,beqS,hj] using h3
  refine hq _ _ ⟨_,rfl,rfl,?_⟩
  symm
  simp only [eqF,Bool.and_eq_true,decide_eq_true_eq,List.all_eq_true,List.mem_range]
  exact ⟨h1,fun i hlt=>hi i (by omega)⟩
theorem index_ok (l:List Int) (hl:l.length<2^20) (k:Nat) (fs cs:List SV) (p:Int→Bool) (hf:∀ x,x∈l→FvC CX TB (.fq k fs cs) [.i .u8 x] [] (RB (p x))):FvC CX TB (.f 203 [] []) [.u l,.fq k fs cs] [] (fun r ro=>∃ x,r=.i .i64 x∧ro=[]∧decide (0≤x)=l.any p):=by
 refine fn_ok rfl rfl fun B D G hG q hq=>?_
 cbv
 refine lp hG (α:=Int) (fun j=>∃ n:Nat,j=(n:Int)∧n≤l.length∧∀ i:Nat,i<n→p (gu l i)=false) (fun j=>l.length-j.toNat) (fun s j=>s.put (some 8) (.i .i64 j)) 0 ⟨0,rfl,Nat.zero_le _,by simp⟩ (by constructor<;>cbv<;>simp) ?_
 rintro j ⟨n,hj,hn,hi⟩
 cbv
 refine SX.ite hG (fun h3=>?_) (fun h3=>?_)
 ·have h3:n<l.length:=by simpa [hG,std,cmpS,arS,beqS,hj] using h3
  refine ⟨by simp [hG,std,hj,h3],?_⟩
  have hgu:G.gu l j=gu l n:=by rw [hG,hj];rfl
  have hm1:G.gu l j∈l:=by rw [hgu];exact gu_mem h3
  have h0:0≤j:=by rw [hj];exact Int.natCast_nonneg n
  refine callQ hG [] (hf _ hm1) ⟨rfl,rfl,rfl⟩ ?_
  rintro _ _ ⟨c,rfl,rfl,hc⟩
  cbv
  rw [hgu] at hc
  refine SX.ite hG (fun h4=>?_) (fun h4=>?_)
  ·refine hq _ _ ⟨_,rfl,rfl,?_⟩
   have:l.any p=true:=List.any_eq_true.2 ⟨_,gu_mem h3,by rw [←hc];exact h4⟩
   rw [this];exact decide_eq_true h0
  ·exact ⟨G.ar .add .i64 j (Int.ofNat 1),⟨n+1,inc hG hj (by omega),h3,fun i hlt=>by rcases Nat.lt_succ_iff_lt_or_eq.1 hlt with h | rfl;exact hi i h;rw [←hc];exact h4⟩,mu hj (inc hG hj (by omega)) h3,by constructor<;>cbv<;>simp⟩
 ·have h3:l.length≤n:=by simpa [hG,std,cmpS,arS,beqS,hj] using h3
  refine hq _ _ ⟨_,rfl,rfl,?_⟩
  have:l.any p=false:=by
   rw [List.any_eq_false]
   intro x hx
   obtain ⟨i,hil,rfl⟩:=List.mem_iff_getElem.1 hx
   have:=hi i (by omega)
   unfold gu at this
   rw [Int.toNat_natCast,List.getElem?_eq_getElem hil] at this
   simpa using this
  rw [this];rfl
theorem contains_ok (l:List Int) (hl:l.length<2^20) (k:Nat) (fs cs:List SV) (p:Int→Bool) (hf:∀ x,x∈l→FvC CX TB (.fq k fs cs) [.i .u8 x] [] (RB (p x))):FvC CX TB (.f 179 [] []) [.u l,.fq k fs cs] [] (RB (l.any p)):=by
 refine fn_ok rfl rfl fun B D G hG q hq=>?_
 cbv
 refine call hG [] (index_ok l hl k fs cs p hf) ⟨rfl,rfl,rfl⟩ ?_
 rintro _ _ ⟨x,rfl,rfl,hx⟩
 cbv
 exact hq _ _ ⟨_,rfl,rfl,by rw [←hx,hG];rfl⟩
end Go.Proofs.YtdgbdkfoeaollaaGreatDoor.V
end
section
set_option linter.unusedSimpArgs false
set_option linter.unusedVariables false
namespace Go.Proofs.YtdgbdkfoeaollaaGreatDoor.V
open Go Go.AL Go.SX
theorem fwu {x:Int} (h:0≤x∧x<2^62):fwrap .u64 x=x:=by
 rw [fwrap_eq]
 unfold IntKind.wrap
 simp only [show IntKind.bits .u64=64 from rfl,show IntKind.signed .u64=false from rfl,Bool.false_and]
 show (if false=true then _ else x % 2^64)=x
 rw [if_neg (by simp)]
 omega
theorem andm {x:Int} (h:0≤x∧x<2^32):arS .and .u64 x 4294967295=x:=by
 obtain ⟨n,rfl⟩:=Int.eq_ofNat_of_zero_le h.1
 have hn:n<2^32:=by omega
 show IntKind.u64.wrap ((BitVec.ofInt 64 (n:Int) &&& BitVec.ofInt 64 4294967295).toNat:Int)=_
 have e:(BitVec.ofInt 64 (n:Int) &&& BitVec.ofInt 64 4294967295).toNat=n:=by
  rw [BitVec.toNat_and]
  have e1:(BitVec.ofInt 64 (n:Int)).toNat=n:=by simp [BitVec.toNat_ofInt];omega
  have e2:(BitVec.ofInt 64 4294967295).toNat=2^32-1:=by decide
  rw [e1,e2,Nat.and_two_pow_sub_one_eq_mod]
  omega
 rw [e,←fwrap_eq]
 exact fwu (by omega)
theorem shr32 {x:Int} (h:0≤x∧x<2^32):shS .shr .u64 x 32=0:=by
 show x.fdiv (2^(Nat.min (32:Int).toNat 64))=0
 have:(2:Int)^(Nat.min (32:Int).toNat 64)=2^32:=rfl
 rw [this,Int.fdiv_eq_ediv_of_nonneg _ (by decide)]
 omega
set_option maxRecDepth 8000 in
theorem mul64_ok (x y:Int) (hx:0≤x∧x<2^32) (hy:0≤y∧y<2^32) (hxy:x*y<2^32):FvC CX TB (.f 195 [] []) [.i .u64 x,.i .u64 y] [] (fun r ro=>∃ a b,r=.t [.i .u64 a,.i .u64 b]∧ro=[]∧a=0∧b=x*y):=by
 have hp:0≤x*y:=Int.mul_nonneg hx.1 hy.1
 refine fn_ok rfl rfl fun B D G hG q hq=>?_
 cbv
 subst hG
 have e1:=andm hx
 have e2:=andm hy
 have e3:=shr32 hx
 have e4:=shr32 hy
 have e5:arS .mul .u64 x y=x*y:=fwu ⟨hp,by omega⟩
 have e6:=shr32 ⟨hp,hxy⟩
 have z1:arS .mul .u64 x 0=0:=by show fwrap .u64 (x*0)=0;rw [Int.mul_zero];rfl
 have z2:arS .mul .u64 0 y=0:=by show fwrap .u64 (0*y)=0;rw [Int.zero_mul];rfl
 have z3:arS .add .u64 0 0=0:=rfl
 have z4:arS .and .u64 0 4294967295=0:=by decide
 have z5:shS .shr .u64 0 32=0:=by decide
 have z6:arS .mul .u64 0 0=0:=rfl
 have nn:(0:Int)≤32:=by decide
 refine ⟨nn,nn,nn,nn,nn,hq _ _ ⟨_,_,rfl,rfl,?_,e5⟩⟩
 show arS .add .u64 (arS .add .u64 (arS .mul .u64 (shS .shr .u64 x 32) (shS .shr .u64 y 32)) (shS .shr .u64 (arS .add .u64 (arS .mul .u64 (shS .shr .u64 x 32) (arS .and .u64 y 4294967295)) (shS .shr .u64 (arS .mul .u64 (arS .and .u64 x 4294967295) (arS .and .u64 y 4294967295)) 32)) 32)) (shS .shr .u64 (arS .add .u64 (arS .and .u64 (arS .add .u64 (arS .mul .u64 (shS .shr .u64 x 32) (arS .and .u64 y 4294967295)) (shS .shr .u64 (arS .mul .u64 (arS .and .u64 x 4294967295) (arS .and .u64 y 4294967295)) 32)) 4294967295) (arS .mul .u64 (arS .and .u64 x 4294967295) (shS .shr .u64 y 32))) 32)=0
 simp only [e1,e2,e3,e4,e5,e6,z1,z2,z3,z4,z5,z6]
theorem mul_ok (x y:Int) (hx:0≤x∧x<2^32) (hy:0≤y∧y<2^32) (hxy:x*y<2^32):FvC CX TB (.f 166 [] []) [.i .u64 x,.i .u64 y] [] (fun r ro=>∃ a b,r=.t [.i .u64 a,.i .u64 b]∧ro=[]∧a=0∧b=x*y):=by
 refine fn_ok rfl rfl fun B D G hG q hq=>?_
 cbv
 refine call hG [] (mul64_ok x y hx hy hxy) ⟨rfl,rfl,rfl⟩ ?_
 rintro _ _ ⟨a,b,rfl,rfl,ha,hb⟩
 cbv
 exact hq _ _ ⟨_,_,rfl,rfl,ha,hb⟩
def repL (l:List Int) (c:Nat):List Int:=(List.range (l.length*c)).map fun i=>gu l (i % l.length:Nat)
theorem cpS_get {L ms:List Int} {n:Nat} (h:n+ms.length≤L.length) (i:Nat):gu (cpS L n ms) i=if n≤i∧i<n+ms.length then gu ms (i-n:Nat) else gu L i:=by
 unfold gu cpS
 simp only [Int.toNat_natCast]
 have hn:(L.take n).length=n:=by rw [List.length_take];omega
 by_cases h1:i<n
 ·rw [List.getElem?_append_left (by omega),List.getElem?_take,if_pos h1,if_neg (by omega)]
 ·rw [List.getElem?_append_right (by omega),hn]
  by_cases h2:i<n+ms.length
  ·rw [List.getElem?_append_left (by omega),if_pos ⟨by omega,h2⟩]
  ·rw [List.getElem?_append_right (by omega),List.getElem?_drop,if_neg (by omega),show n+ms.length+(i-n-ms.length)=i by omega]
theorem cpS_len {L ms:List Int} {n:Nat} (h:n+ms.length≤L.length):(cpS L n ms).length=L.length:=by
 simp only [cpS,List.length_append,List.length_take,List.length_drop,Int.toNat_natCast];omega
theorem gu_take {L:List Int} {k i:Nat} (h:i<k):gu (L.take k) i=gu L i:=by
 unfold gu
 rw [Int.toNat_natCast,List.getElem?_take,if_pos h]
theorem repL_len (l:List Int) (c:Nat):(repL l c).length=l.length*c:=by simp [repL]
theorem repL_get {l:List Int} {c i:Nat} (h:i<l.length*c):gu (repL l c) i=gu l (i % l.length:Nat):=by
 unfold gu repL
 rw [Int.toNat_natCast,List.getElem?_map,List.getElem?_range h]
 rfl
theorem repeat_ok (l:List Int) (c:Int) (hl:l.length<2^15) (hc:0≤c∧c<2^15):FvC CX TB (.f 108 [] []) [.u l,.i .i64 c] [] (RU (repL l c.toNat)):=by
 obtain ⟨c0,hc0,hcl⟩:∃ n:Nat,c=(n:Int)∧n<2^15:=⟨c.toNat,by omega,by omega⟩
 have hT:l.length*c0<2^30:=Nat.lt_of_le_of_lt (Nat.mul_le_mul (Nat.le_of_lt_succ (show l.length<2^15-1+1 by omega)) (Nat.le_of_lt_succ (show c0<2^15-1+1 by omega))) (by decide)
 refine fn_ok rfl rfl fun B D G hG q hq=>?_
 cbv
 refine SX.ite hG (fun h1=>?_) (fun h1=>?_)
 ·exfalso
  rw [hG] at h1
  have h2:c<0:=of_decide_eq_true h1
  omega
 have u1:G.cv .u64 (G.lu l)=(l.length:Int):=by subst hG;show fwrap .u64 (l.length:Int)=_;exact fwu (by omega)
 have u2:G.cv .u64 c=c:=by subst hG;show fwrap .u64 c=_;exact fwu (by omega)
 have hb:(l.length:Int)*c=((l.length*c0:Nat):Int):=by rw [hc0,Int.natCast_mul]
 refine call hG [] (mul_ok (G.cv .u64 (G.lu l)) (G.cv .u64 c) (by rw [u1];omega) (by rw [u2];omega) (by rw [u1,u2,hb];omega)) ⟨rfl,rfl,rfl⟩ ?_
 rintro _ _ ⟨a,b,rfl,rfl,ha,hb2⟩
 cbv
 rw [u1,u2,hb] at hb2
 have hcv:G.cv .i64 b=((l.length*c0:Nat):Int):=by
  have h0:((l.length*c0:Nat):Int)<2^62:=by omega
  subst hG hb2
  exact fwi (x:=((l.length*c0:Nat):Int)) ⟨by omega,h0⟩
 refine SX.ite hG (fun h2=>?_) (fun h2=>?_)
 ·exfalso
  rw [ha,hG] at h2
  cases h2
 refine SX.ite hG (fun h3=>?_) (fun h3=>?_)
 ·exfalso
  rw [hb2,hG] at h3
  have:=of_decide_eq_true h3
  have h4:((l.length*c0:Nat):Int) > 9223372036854775807:=this
  omega
 have hmk:G.mk0 (G.cv .i64 b):=by rw [hcv,hG];exact ⟨Int.natCast_nonneg _,by omega⟩
 refine ⟨hmk,?_⟩
 have q1:G.ru (G.cv .i64 b)=List.replicate (l.length*c0) 0:=by rw [hcv,hG];rfl
 have q2:G.mn (G.lu l) (G.lu (G.ru (G.cv .i64 b)))=((Nat.min l.length (l.length*c0):Nat):Int):=by
  rw [q1,hG]
  show AL.mn (l.length:Int) ((List.replicate (l.length*c0) (0:Int)).length:Int)=_
  rw [List.length_replicate];exact mn_nat _ _
 have q3:G.cp (G.ru (G.cv .i64 b)) 0 (G.tu l (G.mn (G.lu l) (G.lu (G.ru (G.cv .i64 b)))))=cpS (List.replicate (l.length*c0) 0) ((0:Nat):Int) (l.take (Nat.min l.length (l.length*c0))):=by
  rw [q2,q1,hG];rfl
 have hmin:Nat.min l.length (l.length*c0)=if c0=0 then 0 else l.length:=by
  show min l.length (l.length*c0)=_
  split
  ·rename_i e;subst e;simp
  ·rename_i e;exact Nat.min_eq_left (Nat.le_mul_of_pos_right _ (Nat.pos_of_ne_zero e))
 have hml:Nat.min l.length (l.length*c0)≤l.length∧Nat.min l.length (l.length*c0)≤l.length*c0:=⟨Nat.min_le_left _ _,Nat.min_le_right _ _⟩
 have htl:(l.take (Nat.min l.length (l.length*c0))).length=Nat.min l.length (l.length*c0):=by rw [List.length_take];omega
 refine lp hG (α:=Int×List Int) (fun p=>∃ n:Nat,p.1=(n:Int)∧n≤l.length*c0∧p.2.length=l.length*c0∧(n % l.length=0∨n=l.length*c0)∧(∀ i:Nat,i<n→gu p.2 i=gu l (i % l.length:Nat))∧(0<l.length*c0→0<n)) (fun p=>l.length*c0-p.1.toNat) (fun s p=>(s.put (some 8) (.i .i64 p.1)).setO 0 (.u p.2)) (G.mn (G.lu l) (G.lu (G.ru (G.cv .i64 b))),G.cp (G.ru (G.cv .i64 b)) 0 (G.tu l (G.mn (G.lu l) (G.lu (G.ru (G.cv .i64 b)))))) ?_ (by constructor<;>cbv<;>simp) ?_
 ·refine ⟨Nat.min l.length (l.length*c0),q2,hml.2,?_,?_,?_,?_⟩
  ·show (G.cp _ _ _).length=_
   rw [q3,cpS_len (by rw [htl,List.length_replicate];omega),List.length_replicate]
  ·rw [hmin];split
   ·exact .inl (Nat.zero_mod _)
   ·exact .inl (Nat.mod_self _)
  ·intro i hi
   show gu (G.cp _ _ _) i=_
   rw [q3,cpS_get (by rw [htl,List.length_replicate];omega),if_pos (by rw [htl];omega),Nat.sub_zero,gu_take hi,Nat.mod_eq_of_lt (by omega)]
  ·intro h
   rw [hmin]
   have h1:c0≠0:=fun e=>by subst e;simp at h
   have h2:l.length≠0:=fun e=>by rw [e] at h;simp at h
   rw [if_neg h1];omega
 rintro ⟨j,L⟩ ⟨n,hj,hn,hL,hd,hi,hp⟩
 have hj:j=(n:Int):=hj
 have hL:L.length=l.length*c0:=hL
 have hi:∀ i:Nat,i<n→gu L i=gu l (i % l.length:Nat):=hi
 cbv
 have hj:j=(n:Int):=hj
 refine SX.ite hG (fun h4=>?_) (fun h4=>?_)
 ·have h4:n<l.length*c0:=by
   rw [hG] at h4
   have:=of_decide_eq_true h4
   have h5:j<(L.length:Int):=this
   omega
  have r1:G.tu (G.du L 0) j=L.take n:=by rw [hG,hj];rfl
  have r2:G.sb (G.lu L) j=((l.length*c0-n:Nat):Int):=by rw [hG,hj];show (L.length:Int)-(n:Int)=_;omega
  have htn:(L.take n).length=n:=by rw [List.length_take];omega
  have r3:G.mn (G.lu (G.tu (G.du L 0) j)) (G.sb (G.lu L) j)=((Nat.min n (l.length*c0-n):Nat):Int):=by
   rw [r1,r2,hG]
   show AL.mn ((L.take n).length:Int) ((l.length*c0-n:Nat):Int)=_
   rw [htn];exact mn_nat _ _
  have hm:Nat.min n (l.length*c0-n)≤n∧Nat.min n (l.length*c0-n)≤l.length*c0-n:=⟨Nat.min_le_left _ _,Nat.min_le_right _ _⟩
  have hm0:0<Nat.min n (l.length*c0-n):=Nat.lt_min.2 ⟨hp (by omega),by omega⟩
  have htt:((L.take n).take (Nat.min n (l.length*c0-n))).length=Nat.min n (l.length*c0-n):=by rw [List.length_take,htn];omega
  have r4:G.cp L j (G.tu (G.tu (G.du L 0) j) (G.mn (G.lu (G.tu (G.du L 0) j)) (G.sb (G.lu L) j)))=cpS L n ((L.take n).take (Nat.min n (l.length*c0-n))):=by
   rw [r3,r1,hG,hj];rfl
  have r5:G.ar .add .i64 j (G.mn (G.lu (G.tu (G.du L 0) j)) (G.sb (G.lu L) j))=((n+Nat.min n (l.length*c0-n):Nat):Int):=by
   rw [r3,hj,addi hG (by omega)];omega
  have v1:G.le j (G.lu L):=by rw [hG,hj];show 0≤(n:Int)∧(n:Int)≤(L.length:Int);omega
  refine ⟨v1,v1,okd hG rfl ?_⟩
  refine ⟨(G.ar .add .i64 j (G.mn (G.lu (G.tu (G.du L 0) j)) (G.sb (G.lu L) j)),G.cp L j (G.tu (G.tu (G.du L 0) j) (G.mn (G.lu (G.tu (G.du L 0) j)) (G.sb (G.lu L) j)))),⟨n+Nat.min n (l.length*c0-n),r5,by omega,?_,?_,?_,?_⟩,?_,by constructor<;>cbv<;>simp⟩
  ·show (G.cp _ _ _).length=_
   rw [r4,cpS_len (by rw [htt];omega),hL]
  ·by_cases hc:n≤l.length*c0-n
   ·have:Nat.min n (l.length*c0-n)=n:=Nat.min_eq_left hc
    rw [this]
    rcases hd with hd | hd
    ·exact .inl (by rw [Nat.add_mod,hd];exact Nat.zero_mod _)
    ·omega
   ·have:Nat.min n (l.length*c0-n)=l.length*c0-n:=Nat.min_eq_right (by omega)
    rw [this]
    exact .inr (by omega)
  ·intro i hlt
   show gu (G.cp _ _ _) i=_
   rw [r4,cpS_get (by rw [htt];omega),htt]
   by_cases hni:n≤i
   ·rw [if_pos ⟨hni,hlt⟩,gu_take (by omega),gu_take (by omega),hi _ (by omega)]
    rcases hd with hd | hd
    ·have:(i-n) % l.length=i % l.length:=by
      obtain ⟨k,hk⟩:=Nat.dvd_of_mod_eq_zero hd
      rw [hk,Nat.sub_mul_mod]
      rw [←hk];exact hni
     rw [this]
    ·omega
   ·rw [if_neg (by omega)];exact hi i (by omega)
  ·intro _;omega
  ·show l.length*c0-(G.ar _ _ _ _).toNat<l.length*c0-j.toNat
   rw [r5,hj,Int.toNat_natCast,Int.toNat_natCast];omega
 ·have h4:l.length*c0≤n:=by
   rw [hG] at h4
   have:=of_decide_eq_false h4
   have h5:¬ j<(L.length:Int):=this
   omega
  refine hq _ _ ⟨_,rfl,rfl,?_⟩
  refine gu_ext (by rw [hL,repL_len,hc0];rfl) fun i hlt=>?_
  rw [hi i (by omega),repL_get (by rw [hc0];show i<l.length*c0;omega)]
end Go.Proofs.YtdgbdkfoeaollaaGreatDoor.V
end
section
set_option linter.unusedSimpArgs false
set_option linter.unusedVariables false
namespace Go.Proofs.YtdgbdkfoeaollaaGreatDoor.V
open Go Go.AL Go.SX
theorem repL_one (b:Int) (n:Nat):repL [b] n=List.replicate n b:=by
 refine gu_ext (by simp [repL]) fun i hi=>?_
 have hi':i<n:=by simpa [repL] using hi
 rw [repL_get (by simpa using hi')]
 unfold gu
 simp [Nat.mod_one,hi']
theorem fill_ok (b w:Int) (s:Bool) (hw:0≤w∧w<2^15):FvC CX TB (.f 105 [] []) [.i .u8 b,.i .i64 w,.b s] [] (RV (List.replicate w.toNat b) s):=by
 refine fn_ok rfl rfl fun B D G hG q hq=>?_
 cbv
 refine call hG [] (repeat_ok [b] w (by simp) hw) ⟨rfl,rfl,rfl⟩ ?_
 rintro _ _ ⟨L,rfl,rfl,hL⟩
 cbv
 exact hq _ _ ⟨_,_,rfl,rfl,by rw [hL,repL_one],rfl⟩
def nB (l:List Int):List Int:=if chk l=0 then l else [2]
def nS (l:List Int) (s:Bool):Bool:=if chk l=0 then s else false
theorem norm_ok (l:List Int) (s:Bool) (hl:l.length<2^15):FvC CX TB (.f 96 [] []) [.a [.u l,.b s]] [] (RV (nB l) (nS l s)):=by
 refine fn_ok rfl rfl fun B D G hG q hq=>?_
 cbv
 refine call hG [] (check_ok l s) ⟨rfl,rfl,rfl⟩ ?_
 rintro _ _ ⟨e,rfl,rfl,he⟩
 cbv
 refine SX.ite hG (fun h1=>?_) (fun h1=>?_)
 ·have h1:¬ e=0:=by simpa [hG,std,cmpS,arS,beqS] using h1
  refine call hG [] (fill_ok _ _ _ (by constructor<;>decide)) ⟨rfl,rfl,rfl⟩ ?_
  rintro _ _ ⟨L,t,rfl,rfl,hL,ht⟩
  cbv
  exact hq _ _ ⟨_,_,rfl,rfl,by rw [hL,nB,if_neg (by rw [←he];exact h1)];rfl,by rw [ht,nS,if_neg (by rw [←he];exact h1)]⟩
 ·have h1:e=0:=by simpa [hG,std,cmpS,arS,beqS] using h1
  have hne:l≠[]:=fun h=>by rw [h] at he;rw [he] at h1;revert h1;decide
  refine call hG [] (clone_ok l hne (by omega)) ⟨rfl,rfl,rfl⟩ ?_
  rintro _ _ ⟨L,rfl,rfl,hL⟩
  cbv
  refine okd hG rfl (hq _ _ ⟨_,_,rfl,rfl,by rw [hL,nB,if_pos (by rw [←he];exact h1)],by rw [nS,if_pos (by rw [←he];exact h1)]⟩)
theorem single_ok (b:Int):FvC CX TB (.f 123 [] []) [.i .u8 b] [] (RV1 b false):=by
 refine FvC.mono ?_ fun _ _=>RV.one
 refine fn_ok rfl rfl fun B D G hG q hq=>?_
 cbv
 refine call hG [] (fill_ok _ _ _ (by constructor<;>decide)) ⟨rfl,rfl,rfl⟩ ?_
 rintro _ _ ⟨L,t,rfl,rfl,hL,ht⟩
 cbv
 exact hq _ _ ⟨_,_,rfl,rfl,hL,ht⟩
def okW (n:Int):Bool:=decide (1≤n)&&decide (n≤128)
theorem width_ok (n:Int):FvC CX TB (.f 102 [] []) [.i .i64 n] [] (RB (okW n)):=by
 refine fn_ok rfl rfl fun B D G hG q hq=>?_
 cbv
 refine SX.ite hG (fun h1=>?_) (fun h1=>?_)
 ·exact hq _ _ ⟨_,rfl,rfl,by rw [hG] at h1 ⊢;have h1:decide (n≥1)=true:=h1;show decide (n≤128)=_;simp at h1;simp [okW,h1]⟩
 ·exact hq _ _ ⟨_,rfl,rfl,by rw [hG] at h1;have h1:decide (n≥1)=false:=h1;simp at h1;symm;simp [okW];intro h;omega⟩
theorem every1_ok (k:Nat) (fs cs:List SV) (x:Int) (p:Bool) (hf:FvC CX TB (.fq k fs cs) [.i .u8 x] [] (RB p)):FvC CX TB (.f 180 [] [.p [.fq k fs cs]]) [.i .u8 x] [] (RB (!p)):=by
 refine fn_ok rfl rfl fun B D G hG q hq=>?_
 cbv
 refine callQ hG [] (hf) ⟨rfl,rfl,rfl⟩ ?_
 rintro _ _ ⟨c,rfl,rfl,hc⟩
 cbv
 exact hq _ _ ⟨_,rfl,rfl,by rw [hG,hc];rfl⟩
theorem every_ok (l:List Int) (s:Bool) (hl:l.length<2^20) (k:Nat) (fs cs:List SV) (p:Int→Bool) (hf:∀ x,x∈l→FvC CX TB (.fq k fs cs) [.i .u8 x] [] (RB (p x))):FvC CX TB (.f 140 [] []) [.a [.u l,.b s],.fq k fs cs] [] (RB (l.all p)):=by
 refine fn_ok rfl rfl fun B D G hG q hq=>?_
 cbv
 refine call hG [] (contains_ok l hl 180 [] [.p [.fq k fs cs]] (fun x=>!p x) (fun x hx=>fq_ok (every1_ok k fs cs x (p x) (hf x hx)))) ⟨rfl,rfl,rfl⟩ ?_
 rintro _ _ ⟨c,rfl,rfl,hc⟩
 cbv
 exact hq _ _ ⟨_,rfl,rfl,by rw [hG,hc];show (!(l.any fun x=>!p x))=_;rw [List.not_any_eq_all_not];simp⟩
def kn (l:List Int):Bool:=l.all bKn
theorem nB_len {l:List Int} (h:l.length<2^15):(nB l).length<2^15:=by unfold nB;split<;>simp_all
theorem vknown_ok (l:List Int) (s:Bool) (hl:l.length<2^15):FvC CX TB (.f 68 [] []) [.a [.u l,.b s]] [] (RB (kn (nB l))):=by
 refine fn_ok rfl rfl fun B D G hG q hq=>?_
 cbv
 refine call hG [] (norm_ok l s hl) ⟨rfl,rfl,rfl⟩ ?_
 rintro _ _ ⟨L,t,rfl,rfl,hL,ht⟩
 cbv
 refine call hG [] (every_ok L t (by rw [hL];have:=nB_len hl;omega) 94 [] [] bKn (fun x _=>fq_ok (known_ok x))) ⟨rfl,rfl,rfl⟩ ?_
 rintro _ _ ⟨c,rfl,rfl,hc⟩
 cbv
 exact hq _ _ ⟨_,rfl,rfl,by rw [hc,hL];rfl⟩
def leqV (l:List Int) (s:Bool) (m:List Int) (t:Bool):Bool:=nS l s == nS m t&&eqF bLeq (nB l) (nB m)
theorem vleq_ok (l m:List Int) (s t:Bool) (hl:l.length<2^15) (hm:m.length<2^15):FvC CX TB (.f 62 [] []) [.a [.u l,.b s],.a [.u m,.b t]] [] (RB (leqV l s m t)):=by
 refine fn_ok rfl rfl fun B D G hG q hq=>?_
 cbv
 refine call hG [] (norm_ok l s hl) ⟨rfl,rfl,rfl⟩ ?_
 rintro _ _ ⟨L,s1,rfl,rfl,hL,hs1⟩
 cbv
 refine call hG [] (norm_ok m t hm) ⟨rfl,rfl,rfl⟩ ?_
 rintro _ _ ⟨M,t1,rfl,rfl,hM,ht1⟩
 cbv
 refine okd hG rfl ?_
 refine SX.ite hG (fun h1=>?_) (fun h1=>?_)
 ·have h1:(s1 == t1)=true:=by rw [hG] at h1;exact h1
  refine call hG [] (eqFunc_ok L M (by rw [hL];have:=nB_len hl;omega) 16 [] [] bLeq (fun x y _ _=>fq_ok (bLeq_ok x y))) ⟨rfl,rfl,rfl⟩ ?_
  rintro _ _ ⟨c,rfl,rfl,hc⟩
  cbv
  exact hq _ _ ⟨_,rfl,rfl,by rw [hc,leqV,←hs1,←ht1,h1,hL,hM];rfl⟩
 ·have h1:(s1 == t1)=false:=by rw [hG] at h1;exact h1
  exact hq _ _ ⟨_,rfl,rfl,by rw [leqV,←hs1,←ht1,h1];rfl⟩
def boolL (l:List Int):List Bool:=l.map fun x=>x == 1
theorem gb_ext {l m:List Bool} (h:l.length=m.length) (h2:∀ i:Nat,i<l.length→gb l i=gb m i):l=m:=by
 apply List.ext_getElem h
 intro i h3 h4
 have:=h2 i h3
 unfold gb at this
 rw [Int.toNat_natCast,List.getElem?_eq_getElem h3,List.getElem?_eq_getElem h4] at this
 exact this
theorem gb_set {L:List Bool} {n:Nat} {b:Bool} (h:n<L.length) (i:Nat):gb (L.set n b) i=if i=n then b else gb L i:=by
 unfold gb
 rw [Int.toNat_natCast]
 by_cases e:i=n
 ·subst e;rw [List.getElem?_set_self h,if_pos rfl];rfl
 ·rw [List.getElem?_set_ne (Ne.symm e),if_neg e]
theorem gu_set {L:List Int} {n:Nat} {b:Int} (h:n<L.length) (i:Nat):gu (L.set n b) i=if i=n then b else gu L i:=by
 unfold gu
 rw [Int.toNat_natCast]
 by_cases e:i=n
 ·subst e;rw [List.getElem?_set_self h,if_pos rfl];rfl
 ·rw [List.getElem?_set_ne (Ne.symm e),if_neg e]
theorem gb_map {l:List Int} {f:Int→Bool} {i:Nat} (h:i<l.length):gb (l.map f) i=f (gu l i):=by
 unfold gb gu
 rw [Int.toNat_natCast,List.getElem?_map,List.getElem?_eq_getElem h];rfl
theorem gu_map {l:List Int} {f:Int→Int} {i:Nat} (h:i<l.length):gu (l.map f) i=f (gu l i):=by
 unfold gu
 rw [Int.toNat_natCast,List.getElem?_map,List.getElem?_eq_getElem h];rfl
theorem bools_ok (l:List Int) (s:Bool) (hl:l.length<2^20):FvC CX TB (.f 119 [] []) [.a [.u l,.b s]] [] (RL (boolL l)):=by
 refine fn_ok rfl rfl fun B D G hG q hq=>?_
 cbv
 have hmk:G.mk0 (G.lu l):=by rw [hG];show 0≤(l.length:Int)∧(l.length:Int)≤2^40;omega
 refine ⟨hmk,?_⟩
 refine lp hG (α:=Int×List Bool) (fun p=>∃ n:Nat,p.1=(n:Int)∧n≤l.length∧p.2.length=l.length∧∀ i:Nat,i<n→gb p.2 i=(gu l i == 1)) (fun p=>l.length-p.1.toNat) (fun s p=>(s.put (some 13) (.i .i64 p.1)).setO 1 (.b p.2)) (0,G.rb (G.lu l)) ⟨0,rfl,Nat.zero_le _,by rw [hG];show (List.replicate ((l.length:Int)).toNat false).length=l.length;simp,by simp⟩ (by constructor<;>cbv<;>simp) ?_
 rintro ⟨j,L⟩ ⟨n,hj,hn,hL,hi⟩
 have hL:L.length=l.length:=hL
 cbv
 have hj:j=(n:Int):=hj
 have hi:∀ i:Nat,i<n→gb L i=(gu l i == 1):=hi
 refine SX.ite hG (fun h3=>?_) (fun h3=>?_)
 ·have h3:n<l.length:=by simpa [hG,std,cmpS,arS,beqS,hj] using h3
  have v1:G.ix j (G.lu l):=by rw [hG,hj];show 0≤(n:Int)∧(n:Int)<(l.length:Int);omega
  have v2:G.ix j (G.lb L):=by rw [hG,hj];show 0≤(n:Int)∧(n:Int)<(L.length:Int);omega
  have hgu:G.gu l j=gu l n:=by rw [hG,hj];rfl
  have hnx:G.sbl L j (G.cmp .eql (G.gu l j) (Int.ofNat 1))=L.set n (gu l n == 1):=by rw [hgu,hG,hj];rfl
  refine ⟨v1,v2,v2,?_⟩
  have hi2:∀ i:Nat,i<n+1→gb (G.sbl L j (G.cmp .eql (G.gu l j) (Int.ofNat 1))) i=(gu l i == 1):=fun i hlt=>by
   rw [hnx,gb_set (by omega)]
   split
   ·rename_i e;rw [e]
   ·exact hi i (by omega)
  exact ⟨(G.ar .add .i64 j (Int.ofNat 1),G.sbl L j (G.cmp .eql (G.gu l j) (Int.ofNat 1))),⟨n+1,inc hG hj (by omega),h3,by show (G.sbl _ _ _).length=_;rw [hnx];simp [hL],hi2⟩,mu hj (inc hG hj (by omega)) h3,by constructor<;>cbv<;>simp⟩
 ·have h3:l.length≤n:=by simpa [hG,std,cmpS,arS,beqS,hj] using h3
  refine hq _ _ ⟨_,rfl,rfl,gb_ext (by rw [hL];simp [boolL]) fun i hlt=>?_⟩
  rw [hi i (by omega),boolL,gb_map (by omega)]
end Go.Proofs.YtdgbdkfoeaollaaGreatDoor.V
end
section
set_option linter.unusedSimpArgs false
set_option linter.unusedVariables false
namespace Go.Proofs.YtdgbdkfoeaollaaGreatDoor.V
open Go Go.AL Go.SX
def intL (l:List Bool):List Int:=l.map ofB
theorem gu_mapB {l:List Bool} {f:Bool→Int} {i:Nat} (h:i<l.length):gu (l.map f) i=f (gb l i):=by
 unfold gb gu
 rw [Int.toNat_natCast,List.getElem?_map,List.getElem?_eq_getElem h];rfl
theorem vector_ok (l:List Bool) (s:Bool) (hl:l.length<2^20):FvC CX TB (.f 104 [] []) [.bl l,.b s] [] (RV (intL l) s):=by
 refine fn_ok rfl rfl fun B D G hG q hq=>?_
 cbv
 have hmk:G.mk0 (G.lb l):=by rw [hG];show 0≤(l.length:Int)∧(l.length:Int)≤2^40;omega
 refine ⟨hmk,?_⟩
 refine lp hG (α:=Int×List Int) (fun p=>∃ n:Nat,p.1=(n:Int)∧n≤l.length∧p.2.length=l.length∧∀ i:Nat,i<n→gu p.2 i=ofB (gb l i)) (fun p=>l.length-p.1.toNat) (fun s p=>(s.put (some 15) (.i .i64 p.1)).setO 1 (.u p.2)) (0,G.ru (G.lb l)) ⟨0,rfl,Nat.zero_le _,by rw [hG];show (List.replicate ((l.length:Int)).toNat (0:Int)).length=l.length;simp,by simp⟩ (by constructor<;>cbv<;>simp) ?_
 rintro ⟨j,L⟩ ⟨n,hj,hn,hL,hi⟩
 have hL:L.length=l.length:=hL
 cbv
 have hj:j=(n:Int):=hj
 have hi:∀ i:Nat,i<n→gu L i=ofB (gb l i):=hi
 refine SX.ite hG (fun h3=>?_) (fun h3=>?_)
 ·have h3:n<l.length:=by simpa [hG,std,cmpS,arS,beqS,hj] using h3
  have v1:G.ix j (G.lb l):=by rw [hG,hj];show 0≤(n:Int)∧(n:Int)<(l.length:Int);omega
  have v2:G.ix j (G.lu L):=by rw [hG,hj];show 0≤(n:Int)∧(n:Int)<(L.length:Int);omega
  refine ⟨v1,?_⟩
  have hgb:G.gb l j=gb l n:=by rw [hG,hj];rfl
  refine call hG [] (ofB_ok (G.gb l j)) ⟨rfl,rfl,rfl⟩ ?_
  rintro _ _ ⟨c,rfl,rfl,hc⟩
  cbv
  rw [hgb] at hc
  have hj:j=(n:Int):=hj
  have hnx:G.su L j c=L.set n (ofB (gb l n)):=by rw [hc,hG,hj];rfl
  refine ⟨v2,v2,okd hG rfl ?_⟩
  have hi2:∀ i:Nat,i<n+1→gu (G.su L j c) i=ofB (gb l i):=fun i hlt=>by
   rw [hnx,gu_set (by omega)]
   split
   ·rename_i e;rw [e]
   ·exact hi i (by omega)
  exact ⟨(G.ar .add .i64 j (Int.ofNat 1),G.su L j c),⟨n+1,inc hG hj (by omega),h3,by show (G.su _ _ _).length=_;rw [hnx];simp [hL],hi2⟩,mu hj (inc hG hj (by omega)) h3,by constructor<;>cbv<;>simp⟩
 ·have h3:l.length≤n:=by simpa [hG,std,cmpS,arS,beqS,hj] using h3
  refine hq _ _ ⟨_,_,rfl,rfl,gu_ext (by rw [hL];simp [intL]) fun i hlt=>?_,rfl⟩
  rw [hi i (by omega),intL,gu_mapB (by omega)]
def fld (f:Int→Int→Int) (l:List Int):Int:=(l.drop 1).foldl f (bBuf (gu l 0))
theorem gu_drop {l:List Int} (k i:Nat):gu (l.drop k) i=gu l (k+i:Nat):=by
 unfold gu
 rw [Int.toNat_natCast,Int.toNat_natCast,List.getElem?_drop]
theorem take_succ_gu {l:List Int} {n:Nat} (h:n<l.length):l.take (n+1)=l.take n++[gu l n]:=by
 rw [List.take_add_one,List.getElem?_eq_getElem h]
 unfold gu
 rw [Int.toNat_natCast,List.getElem?_eq_getElem h];rfl
theorem fold_4 {f:Int→Int→Int} (hf4:∀ x y,V4 x→V4 y→V4 (f x y)):∀ {l:List Int} {x:Int},V4 x→(∀ y∈l,V4 y)→V4 (l.foldl f x)
 | [],x,hx,_=>hx
 | y::l,x,hx,hl=>fold_4 (l:=l) (x:=f x y) hf4 (hf4 x y hx (hl y (by simp))) (fun z hz=>hl z (by simp [hz]))
theorem fold_ok (l:List Int) (s:Bool) (hne:l≠[]) (hl:l.length<2^20) (h4:∀ x∈l,V4 x) (k:Nat) (fs cs:List SV) (f:Int→Int→Int) (hf4:∀ x y,V4 x→V4 y→V4 (f x y)) (hf:∀ x y,V4 x→V4 y→FvC CX TB (.fq k fs cs) [.i .u8 x,.i .u8 y] [] (RI .u8 (f x y))):FvC CX TB (.f 95 [] []) [.a [.u l,.b s],.fq k fs cs] [] (RI .u8 (fld f l)):=by
 have hpos:0<l.length:=List.length_pos_iff.2 hne
 refine fn_ok rfl rfl fun B D G hG q hq=>?_
 cbv
 have v0:G.ix 0 (G.lu l):=by rw [hG];show (0:Int)≤0∧(0:Int)<(l.length:Int);omega
 have hg0:G.gu l 0=gu l (0:Nat):=by rw [hG];rfl
 have hv0:V4 (gu l (0:Nat)):=h4 _ (gu_mem hpos)
 refine ⟨v0,?_⟩
 refine call hG [] (bBuf_ok (G.gu l 0) (by rw [hg0];exact hv0.1)) ⟨rfl,rfl,rfl⟩ ?_
 rintro _ _ ⟨b0,rfl,rfl,hb0⟩
 cbv
 rw [hg0] at hb0
 have v1:G.le 1 (G.lu l):=by rw [hG];show (0:Int)≤1∧(1:Int)≤(l.length:Int);omega
 refine ⟨v1,?_⟩
 have hdu:G.du l 1=l.drop 1:=by rw [hG];rfl
 have hb4:V4 b0:=by rw [hb0];exact bBuf_4 hv0.1
 have hd4:∀ y∈l.drop 1,V4 y:=fun y hy=>h4 y (List.mem_of_mem_drop hy)
 refine lp hG (α:=Int×Int) (fun p=>∃ n:Nat,p.1=(n:Int)∧n≤(l.drop 1).length∧p.2=((l.drop 1).take n).foldl f b0) (fun p=>(l.drop 1).length-p.1.toNat) (fun s p=>(s.put (some 17) (.i .i64 p.1)).put (some 5) (.i .u8 p.2)) (0,b0) ⟨0,rfl,Nat.zero_le _,by simp⟩ (by constructor<;>cbv<;>simp) ?_
 rintro ⟨j,x⟩ ⟨n,hj,hn,hx⟩
 have hx:x=((l.drop 1).take n).foldl f b0:=hx
 have hx4:V4 x:=by rw [hx];exact fold_4 hf4 hb4 (fun y hy=>hd4 y (List.mem_of_mem_take hy))
 cbv
 have hj:j=(n:Int):=hj
 refine SX.ite hG (fun h3=>?_) (fun h3=>?_)
 ·have h3:n<(l.drop 1).length:=by
   rw [hG,hj] at h3
   have h3:(n:Int)<((l.drop 1).length:Int):=of_decide_eq_true h3
   omega
  have v2:G.ix j (G.lu (G.du l 1)):=by rw [hdu,hG,hj];show 0≤(n:Int)∧(n:Int)<((l.drop 1).length:Int);omega
  have hgu:G.gu (G.du l 1) j=gu (l.drop 1) n:=by rw [hdu,hG,hj];rfl
  have hm:V4 (G.gu (G.du l 1) j):=by rw [hgu];exact hd4 _ (gu_mem h3)
  refine ⟨v2,?_⟩
  refine callQ hG [] (hf x _ hx4 hm) ⟨rfl,rfl,rfl⟩ ?_
  rintro _ _ ⟨c,rfl,rfl,hc⟩
  cbv
  rw [hgu] at hc
  have hj:j=(n:Int):=hj
  exact ⟨(G.ar .add .i64 j (Int.ofNat 1),c),⟨n+1,inc hG hj (by have:=List.length_drop (i:=1) (l:=l);omega),h3,by show c=_;rw [take_succ_gu h3,List.foldl_append,hc,hx];rfl⟩,mu hj (inc hG hj (by have:=List.length_drop (i:=1) (l:=l);omega)) h3,by constructor<;>cbv<;>simp⟩
 ·have h3:(l.drop 1).length≤n:=by
   rw [hG,hj] at h3
   have h3:¬ (n:Int)<((l.drop 1).length:Int):=of_decide_eq_false h3
   omega
  refine hq _ _ ⟨_,rfl,rfl,?_⟩
  rw [hx,List.take_of_length_le h3,hb0];rfl
structure NV (l:List Int):Prop where
 ne:l≠[]
 len:l.length≤128
 v:∀ x∈l,V4 x
theorem chk_zero {l:List Int} (h:chk l=0):l≠[]∧l.length≤128∧∀ x∈l,x≤3:=by
 unfold chk at h
 split at h
 ·cases h
 ·rename_i h1
  split at h
  ·cases h
  ·rename_i h2
   split at h
   ·rename_i h3
    refine ⟨fun e=>h1 (by rw [e];rfl),by omega,fun x hx=>?_⟩
    simpa using List.all_eq_true.1 h3 x hx
   ·cases h
theorem nB_nv {l:List Int} (h:∀ x∈l,0≤x):NV (nB l):=by
 unfold nB
 split
 ·rename_i hc
  obtain ⟨h1,h2,h3⟩:=chk_zero hc
  exact ⟨h1,h2,fun x hx=>⟨h x hx,h3 x hx⟩⟩
 ·exact ⟨by simp,by simp,fun x hx=>by simp at hx;subst hx;constructor<;>decide⟩
theorem chk_nv {l:List Int} (h:NV l):chk l=0:=by
 unfold chk
 rw [if_neg (fun e=>h.ne (List.length_eq_zero_iff.1 e)),if_neg (by have:=h.len;omega),if_pos (List.all_eq_true.2 fun x hx=>by have:=h.v x hx;unfold V4 at this;simp;omega)]
theorem nB_id {l:List Int} (h:NV l):nB l=l:=by rw [nB,if_pos (chk_nv h)]
theorem nS_id {l:List Int} (h:NV l) (s:Bool):nS l s=s:=by rw [nS,if_pos (chk_nv h)]
def Byt (l:List Int):Prop:=∀ x∈l,0≤x
theorem bAnd_44 (x y:Int) (hx:V4 x) (hy:V4 y):V4 (bAnd x y):=bAnd_4 hx.1 hy.1
theorem bOr_44 (x y:Int) (hx:V4 x) (hy:V4 y):V4 (bOr x y):=bOr_4 hx.1 hy.1
theorem bXor_44 (x y:Int) (hx:V4 x) (hy:V4 y):V4 (bXor x y):=bXor_4 hx.1 hy.1
theorem bEq_44 (x y:Int) (hx:V4 x) (hy:V4 y):V4 (bEq x y):=bEq_4 hx.1 hy.1
theorem truth_ok (l:List Int) (s:Bool) (hl:l.length<2^15) (hb:Byt l):FvC CX TB (.f 17 [] []) [.a [.u l,.b s]] [] (RI .u8 (fld bOr (nB l))):=by
 have nv:=nB_nv hb
 refine fn_ok rfl rfl fun B D G hG q hq=>?_
 cbv
 refine call hG [] (norm_ok l s hl) ⟨rfl,rfl,rfl⟩ ?_
 rintro _ _ ⟨L,t,rfl,rfl,hL,ht⟩
 cbv
 have nvL:NV L:=by rw [hL];exact nv
 refine call hG [] (fold_ok L t nvL.ne (by have:=nvL.len;omega) nvL.v 97 [] [] bOr bOr_44 (fun x y hx hy=>fq_ok (bOr_ok x y hx.1 hy.1))) ⟨rfl,rfl,rfl⟩ ?_
 rintro _ _ ⟨c,rfl,rfl,hc⟩
 cbv
 exact hq _ _ ⟨_,rfl,rfl,by rw [hc,hL]⟩
theorem withSign_ok (l:List Int) (s t:Bool) (hl:l.length<2^15):FvC CX TB (.f 57 [] []) [.a [.u l,.b s],.b t] [] (RV (nB l) t):=by
 refine fn_ok rfl rfl fun B D G hG q hq=>?_
 cbv
 refine call hG [] (norm_ok l s hl) ⟨rfl,rfl,rfl⟩ ?_
 rintro _ _ ⟨L,s1,rfl,rfl,hL,hs1⟩
 cbv
 exact hq _ _ ⟨_,_,rfl,rfl,hL,rfl⟩
theorem vnot_ok (l:List Int) (s:Bool) (hl:l.length<2^15) (hb:Byt l):FvC CX TB (.f 29 [] []) [.a [.u l,.b s]] [] (RV ((nB l).map bNot) (nS l s)):=by
 have nv:=nB_nv hb
 refine fn_ok rfl rfl fun B D G hG q hq=>?_
 cbv
 refine call hG [] (norm_ok l s hl) ⟨rfl,rfl,rfl⟩ ?_
 rintro _ _ ⟨M,t,rfl,rfl,hM,ht⟩
 cbv
 have nvM:NV M:=by rw [hM];exact nv
 have hlen:=nvM.len
 refine lp hG (α:=Int×List Int) (fun p=>∃ n:Nat,p.1=(n:Int)∧n≤M.length∧p.2.length=M.length∧∀ i:Nat,i<M.length→gu p.2 i=if i<n then bNot (gu M i) else gu M i) (fun p=>M.length-p.1.toNat) (fun s p=>(s.put (some 10) (.i .i64 p.1)).setO 2 (.u p.2)) (0,M) ⟨0,rfl,Nat.zero_le _,rfl,by simp⟩ (by constructor<;>cbv<;>simp) ?_
 rintro ⟨j,L⟩ ⟨n,hj,hn,hL,hi⟩
 have hL:L.length=M.length:=hL
 cbv
 have hj:j=(n:Int):=hj
 have hi:∀ i:Nat,i<M.length→gu L i=if i<n then bNot (gu M i) else gu M i:=hi
 refine SX.ite hG (fun h3=>?_) (fun h3=>?_)
 ·have h3:n<M.length:=by simpa [hG,std,cmpS,arS,beqS,hj] using h3
  have v2:G.ix j (G.lu L):=by rw [hG,hj];show 0≤(n:Int)∧(n:Int)<(L.length:Int);omega
  refine ⟨v2,v2,?_⟩
  have hgu:G.gu L j=gu M n:=by
   rw [hG,hj];show gu L n=_;rw [hi n h3,if_neg (by omega)]
  refine call hG [] (bNot_ok (G.gu L j) (by rw [hgu];exact (nvM.v _ (gu_mem h3)).1)) ⟨rfl,rfl,rfl⟩ ?_
  rintro _ _ ⟨c,rfl,rfl,hc⟩
  cbv
  rw [hgu] at hc
  have hj:j=(n:Int):=hj
  have hnx:G.su L j c=L.set n (bNot (gu M n)):=by rw [hc,hG,hj];rfl
  refine ⟨v2,v2,okd hG rfl ?_⟩
  have hi2:∀ i:Nat,i<M.length→gu (G.su L j c) i=if i<n+1 then bNot (gu M i) else gu M i:=fun i hlt=>by
   rw [hnx,gu_set (by omega)]
   split
   ·rename_i e;rw [e,if_pos (by omega)]
   ·rw [hi i hlt]
    by_cases h5:i<n
    ·rw [if_pos h5,if_pos (by omega)]
    ·rw [if_neg h5,if_neg (by omega)]
  exact ⟨(G.ar .add .i64 j (Int.ofNat 1),G.su L j c),⟨n+1,inc hG hj (by omega),h3,by show (G.su _ _ _).length=_;rw [hnx];simp [hL],hi2⟩,mu hj (inc hG hj (by omega)) h3,by constructor<;>cbv<;>simp⟩
 ·have h3:M.length≤n:=by simpa [hG,std,cmpS,arS,beqS,hj] using h3
  refine hq _ _ ⟨_,_,rfl,rfl,?_,ht⟩
  rw [←hM]
  refine gu_ext (by rw [hL];simp) fun i hlt=>?_
  rw [hi i (by omega),if_pos (by omega),gu_map (by omega)]
theorem nv1 {x:Int} (h:V4 x):NV [x]:=⟨by simp,by simp,fun y hy=>by simp at hy;subst hy;exact h⟩
theorem vnot1_ok (x:Int) (s:Bool) (h:V4 x):FvC CX TB (.f 29 [] []) [.a [.u [x],.b s]] [] (RV1 (bNot x) s):=by
 have:=vnot_ok [x] s (by simp) (fun y hy=>by simp at hy;subst hy;exact h.1)
 rw [nB_id (nv1 h),nS_id (nv1 h)] at this
 exact this.mono fun _ _=>RV.one
end Go.Proofs.YtdgbdkfoeaollaaGreatDoor.V
end
section
set_option linter.unusedSimpArgs false
set_option linter.unusedVariables false
namespace Go.Proofs.YtdgbdkfoeaollaaGreatDoor.V
open Go Go.AL Go.SX
def top (l:List Int) (s:Bool):Int:=if s then gu l (l.length-1:Nat) else 0
def rsz (l:List Int) (s:Bool) (w:Nat):List Int:=if w≤l.length then l.take w else l++List.replicate (w-l.length) (top l s)
theorem rsz_len {l:List Int} {s:Bool} {w:Nat}:(rsz l s w).length=w:=by
 unfold rsz;split<;>simp<;>omega
theorem top_4 {l:List Int} (h:NV l) (s:Bool):V4 (top l s):=by
 unfold top
 split
 ·exact h.v _ (gu_mem (by have:=List.length_pos_iff.2 h.ne;omega))
 ·constructor<;>decide
theorem rsz_nv {l:List Int} {s:Bool} {w:Nat} (h:NV l) (h1:1≤w) (h2:w≤128):NV (rsz l s w):=by
 refine ⟨fun e=>?_,by rw [rsz_len];exact h2,fun x hx=>?_⟩
 ·have:=congrArg List.length e
  rw [rsz_len] at this;simp at this;omega
 ·unfold rsz at hx
  split at hx
  ·exact h.v x (List.mem_of_mem_take hx)
  ·rcases List.mem_append.1 hx with hx | hx
   ·exact h.v x hx
   ·rw [(List.mem_replicate.1 hx).2];exact top_4 h s
def tailR:IC:=(.seq (.region true [⟨(some 29),none,(.fieldAddr 0 (.tmp 2))⟩,⟨(some 30),none,(.load none (.tmp 29))⟩,⟨(some 31),none,(.mov (.tmp 6))⟩,⟨(some 32),none,(.buildSlice [(.int .u8 0)] 1 [(0,(1,(.tmp 31)))])⟩,⟨(some 33),none,(.mov (.tmp 1))⟩,⟨(some 34),none,(.mov (.tmp 5))⟩,⟨(some 35),none,(.bin 0 .sub (.tmp 33) (.tmp 34))⟩,⟨(some 36),none,(.call (.func 108) [(.tmp 32),(.tmp 35)])⟩,⟨(some 37),none,(.append 1 1 (.tmp 30) (.tmp 36))⟩,⟨(some 38),none,(.fieldAddr 1 (.tmp 2))⟩,⟨(some 39),none,(.load none (.tmp 38))⟩,⟨(some 40),none,(.build [(.slice none 0 0),(.bool false)] [(0,(1,(.tmp 37))),(1,(1,(.tmp 39)))])⟩,⟨none,none,(.store 2 (.tmp 4) (.tmp 40))⟩] [0,1,0,4,0,0,48,124,255,0,512,2047,4095]) .ret)
def stR (l:List Int) (sg:Bool) (w n x:Int):St:=⟨((((T.nil.set 1 (SV.i .i64 w)).set 2 (.o 1 0)).set 4 (.o 2 0)).set 5 (.i .i64 n)).set 6 (.i .u8 x),[.u l,.x [.s 0,.b sg],.x [.nil,.kb false]]⟩
theorem fl_cons2 {a c:Bool×Bool} {xs ys:List (Bool×Bool)} (h:FlLe xs ys):FlLe (a::c::xs) (a::c::ys):=⟨⟨rfl,fun h=>h⟩,⟨rfl,fun h=>h⟩,h⟩
def tailOps:List IOper:=[⟨(some 31),none,(.mov (.tmp 6))⟩,⟨(some 32),none,(.buildSlice [(.int .u8 0)] 1 [(0,(1,(.tmp 31)))])⟩,⟨(some 33),none,(.mov (.tmp 1))⟩,⟨(some 34),none,(.mov (.tmp 5))⟩,⟨(some 35),none,(.bin 0 .sub (.tmp 33) (.tmp 34))⟩,⟨(some 36),none,(.call (.func 108) [(.tmp 32),(.tmp 35)])⟩,⟨(some 37),none,(.append 1 1 (.tmp 30) (.tmp 36))⟩,⟨(some 38),none,(.fieldAddr 1 (.tmp 2))⟩,⟨(some 39),none,(.load none (.tmp 38))⟩,⟨(some 40),none,(.build [(.slice none 0 0),(.bool false)] [(0,(1,(.tmp 37))),(1,(1,(.tmp 39)))])⟩,⟨none,none,(.store 2 (.tmp 4) (.tmp 40))⟩]
def tailK (q:SV→List SX.Obj→Prop):St→List (Bool×Bool)→Prop:=fun s' fl=>(s'.env.get 38=some (.o 1 1)∧s'.env.get 4=some (.o 2 0)∧fl=[(false,false),(true,false),(false,false),(false,false),(false,false),(true,false),(true,true),(false,false),(true,false),(false,false),(true,true)])∧post [.cell 4 (some 2)] q .ret s'
theorem tail_wo {B:AH} {D:Bs} {G:Sg} (hG:G=std CX TB B D) (l:List Int) (sg:Bool) (w n x:Int) (hn:n=(l.length:Int)) (hl:l.length<2^14) (hw:n<w∧w<2^14) (q:SV→List SX.Obj→Prop)
  (hq:∀ L,L=l++List.replicate (w.toNat-l.length) x→q (.a [.s 0,.b sg]) [.u L]):WO G TB tailOps (((stR l sg w n x).put (some 29) (SV.o 1 0)).put (some 30) (SV.s 0)) [] (tailK q):=by
 have hb:-(2^62)≤w-n∧w-n<2^62:=by omega
 have hc:0≤w-n∧w-n<2^15:=by omega
 have he:(w-n).toNat=w.toNat-l.length:=by omega
 clear hn
 cbv
 refine call hG [] (repeat_ok [x] (G.ar .sub .i64 w n) (by simp) (by rw [subi hG hb];exact hc)) ⟨rfl,rfl,rfl⟩ ?_
 rintro _ _ ⟨L,rfl,rfl,hL⟩
 cbv
 have eL:L=List.replicate (w.toNat-l.length) x:=by
  rw [hL,subi hG hb,he]
  refine gu_ext (by rw [repL_len];simp) fun i hi=>?_
  rw [repL_len] at hi
  rw [repL_get hi]
  simp only [List.length_cons,List.length_nil,Nat.zero_add,Nat.mod_one,Nat.one_mul] at hi ⊢
  unfold gu
  simp only [Int.toNat_natCast]
  rw [List.getElem?_replicate,if_pos (by omega)]
  rfl
 have hq2:=hq _ (congrArg (l ++ ·) eL)
 have hlen:L.length<2^14:=by rw [eL,List.length_replicate];omega
 subst hG
 refine ⟨?_,hq2⟩
 simp only [std]
 omega
theorem resize_tail {B:AH} {d:Nat→Prop} (m0:List Value) (h0:m0.length=3) (l:List Int) (sg:Bool) (w n x:Int) (hne:l≠[]) (hn:n=(l.length:Int)) (hl:l.length<2^14) (hw:n<w∧w<2^14) (q:SV→List SX.Obj→Prop)
  (hq:∀ L,L=l++List.replicate (w.toNat-l.length) x→q (.a [.s 0,.b sg]) [.u L]):SWs CX TB B ⟨d,boxM m0 [.u l,.x [.s 0,.b sg],.x [.nil,.kb false]]⟩ tailR (stR l sg w n x) (post [.cell 4 (some 2)] q):=by
 intro m E H hs
 obtain ⟨p1,e1,id1,k1,rfl⟩:=hs.env 2 (.o 1 0) rfl
 obtain ⟨p2,e2,id2,k2,rfl⟩:=hs.env 4 (.o 2 0) rfl
 obtain ⟨v0,k0⟩:∃ v,m[0]?=some v:=⟨m[0]'(by rw [hs.obs.len];exact (by decide:0<3)),List.getElem?_eq_getElem _⟩
 have o0:=hs.obs.ok 0 (.u l) v0 rfl k0
 obtain ⟨i0,c0,kd0,rfl,-,b0,g0⟩:∃ id c kd,v0=.slice (some ⟨id,0,none⟩) (intV l).length c∧((c=UC∧kd=3)∨(c=(intV l).length∧kd=0))∧id<H.n∧H.t.get id=some ⟨intV l,kd⟩:=by
  rcases o0 with ⟨rfl,h⟩ | h
  ·exfalso;cases l with
   | nil=>exact hne rfl
   | cons a l=>simp [intV] at h
  ·exact h
 obtain ⟨id1',vs1,hv1,b1,g1,w0,ws1,rfl,hw0,wb,ws2,rfl,hwb,rfl⟩:=hs.obs.ok 1 (.x [.s 0,.b sg]) _ rfl k1
 cases hv1
 obtain ⟨hw0,-⟩:=hw0
 rw [k0] at hw0;cases hw0
 obtain ⟨id2',vs2,hv2,b2,-⟩:=hs.obs.ok 2 (.x [.nil,.kb false]) _ rfl k2
 cases hv2
 have n01:i0≠id1:=fun e=>by
  subst e
  exact absurd (hs.obs.dis 0 1 _ _ _ _ i0 rfl (by intro h;cases h) rfl (by intro h;cases h) k0 k1 rfl rfl) (by decide)
 have n12:id2≠id1:=fun e=>by
  subst e
  exact absurd (hs.obs.dis 2 1 _ _ _ _ id2 rfl (by intro h;cases h) rfl (by intro h;cases h) k2 k1 rfl rfl) (by decide)
 have f1:m0[1]?=some (.pointer (some ⟨id1,0,none⟩)):=by
  obtain ⟨v,hv⟩:∃ v,m0[1]?=some v:=⟨m0[1]'(by omega),List.getElem?_eq_getElem _⟩
  have:=(hs.fix 1 v (by simpa [boxM] using hv)).1
  rw [k1] at this;cases this;exact hv
 have f2:m0[2]?=some (.pointer (some ⟨id2,0,none⟩)):=by
  obtain ⟨v,hv⟩:∃ v,m0[2]?=some v:=⟨m0[2]'(by omega),List.getElem?_eq_getElem _⟩
  have:=(hs.fix 2 v (by simpa [boxM] using hv)).1
  rw [k2] at this;cases this;exact hv
 have hs1:=hs.rebase
 refine Cw.seq (Cw.region3 ?_)
 refine Ow.pop (v:=.pointer (some ⟨id1,0,none⟩)) rfl rfl (by simp only [AL.pop,ev,e1];rfl) ?_
 have hs2:=hs1.put (d:=some 29) (x:=.o 1 0) (w:=.pointer (some ⟨id1,0,none⟩)) ⟨id1,k1,rfl⟩
 refine Ow.hop (v:=.slice (some ⟨i0,0,none⟩) (intV l).length c0) (H1:={ H with wl:=H.n }) rfl rfl rfl (by simp [AL.hop,ev,AL.put,T.get_set,g1,AL.part]) ?_
 have hs3:=hs2.put (d:=some 30) (x:=.s 0) (w:=.slice (some ⟨i0,0,none⟩) (intV l).length c0) ⟨k0,_,_,_,rfl⟩
 have key:=Ow.len (Ow.unset (t:=30) rfl (WO_ok (fl:=[]) (os:=tailOps) (K:=tailK q) (tail_wo rfl l sg w n x hn hl hw q hq) hs3))
 refine key.mono ?_
 rintro E' H' fl ⟨⟨⟨s',m',f,⟨⟨q38,q4,hf⟩,hp⟩,hle,hs'⟩,q30⟩,hlen⟩
 subst hf
 obtain ⟨p38,e38,i38,k38,rfl⟩:=hs'.env 38 (.o 1 1) q38
 obtain ⟨p4,e4,i4,k4,rfl⟩:=hs'.env 4 (.o 2 0) q4
 have g1':=(hs'.fix 1 (.pointer (some ⟨id1,0,none⟩)) (by simpa [boxM] using f1)).1
 rw [k38] at g1';cases g1'
 have g2':=(hs'.fix 2 (.pointer (some ⟨id2,0,none⟩)) (by simpa [boxM] using f2)).1
 rw [k4] at g2';cases g2'
 have q30':T.get E' 30=some (.slice (some ⟨i0,0,none⟩) (intV l).length c0):=by
  rw [q30];show (T.set _ 30 _).get 30=_;rw [T.get_set,if_pos rfl]
 refine ⟨mark2_ok 10 (by simp [hlen];rfl) (fl_cons2 hle) ?_ (by decide),fun y hy=>?_⟩
 ·simp only [tailOps,List.drop_succ_cons,List.drop_zero,markC,Bool.and_eq_true]
  refine ⟨?_,?_⟩
  ·simp only [oldLoad,e38,Bool.and_eq_true]
   exact ⟨Nat.ble_eq_true_of_le b1,by decide⟩
  ·simp only [loadBlk,e38]
   refine missed_ok fun i o os' h1 h2=>?_
   have h3:=((fl_cons2 (a:=(false,false)) (c:=(true,false)) hle).get i).2 h2
   have hi:i=8∨i=12:=by
    by_cases hlt:i<13
    ·clear h1 h2
     revert h3
     have:∀ j:Fin 13,((((false,false)::(true,false)::[(false,false),(true,false),(false,false),(false,false),(false,false),(true,false),(true,true),(false,false),(true,false),(false,false),(true,true)]):List (Bool×Bool)).getD j.val (false,false)).2=true→j.val=8∨j.val=12:=by decide
     exact this ⟨i,hlt⟩
    ·rw [List.getD_eq_getElem?_getD,List.getElem?_eq_none (by simp;omega)] at h3
     cases h3
   rcases hi with rfl | rfl
   ·simp only [tailOps,List.drop_succ_cons,List.drop_zero,List.cons.injEq] at h1
    obtain ⟨rfl,rfl⟩:=h1
    exact .inr ⟨30,i0,by simp only [tgtOf,q30'],n01,by decide⟩
   ·simp only [tailOps,List.drop_succ_cons,List.drop_zero,List.cons.injEq] at h1
    obtain ⟨rfl,rfl⟩:=h1
    exact .inr ⟨4,id2,by simp only [tgtOf,e4],n12,by decide⟩
 ·exact Cw.ret ⟨s',m',hp,hs.back hs' hy⟩
theorem resize_ok (l:List Int) (s:Bool) (w:Int) (hne:l≠[]) (hl:l.length<2^14) (hw:1≤w∧w<2^14):FvC CX TB (.f 106 [] []) [.a [.s 0,.b s],.i .i64 w] [.u l] (RV (rsz l s w.toNat) s):=by
 refine fn_sws rfl rfl fun B d q hq=>?_
 obtain ⟨G0,hG0⟩:∃ G,G=std CX TB B ⟨d,fun _=>none⟩:=⟨_,rfl⟩
 refine sws_seq hG0 fun R hR=>?_
 cbv
 refine hR _ ?_
 clear hR R hG0 G0
 refine sws_fix fun m0 h0=>?_
 obtain ⟨D,hD⟩:∃ D:Bs,D=⟨d,boxM m0 [.u l,.x [.s 0,.b s],.x [.nil,.kb false]]⟩:=⟨_,rfl⟩
 have hq':∀ L,L=rsz l s w.toNat→q (.a [.s 0,.b s]) [.u L]:=fun L hL=>hq _ _ ⟨L,s,rfl,rfl,hL,rfl⟩
 show SWs CX TB B ⟨d,boxM m0 [.u l,.x [.s 0,.b s],.x [.nil,.kb false]]⟩ _ _ _
 rw [←hD]
 obtain ⟨G,hG⟩:∃ G,G=std CX TB B D:=⟨_,rfl⟩
 refine sws_seq hG fun R hR=>?_
 cbv
 refine hR _ ?_
 clear hR R
 refine sws_seq hG fun R hR=>?_
 cbv
 have e1:G.lu l=(l.length:Int):=by subst hG;rfl
 have hcm:∀ b,G.cmp .leq w (G.lu l)=b→decide (w≤(l.length:Int))=b:=fun b hb=>by rw [←hb,e1];subst hG;rfl
 have hs1:G.ar .sub .i64 (G.lu l) 1=((l.length-1:Nat):Int):=by
  have:=List.length_pos_iff.2 hne
  rw [subi hG (by rw [e1];omega),e1];omega
 have i1:G.ix (G.ar .sub .i64 (G.lu l) 1) (G.lu l):=by
  have:=List.length_pos_iff.2 hne
  have h2:(0:Int)≤((l.length-1:Nat):Int)∧((l.length-1:Nat):Int)<(l.length:Int):=by omega
  rw [hs1,e1];subst hG
  exact h2
 refine SX.ite hG (fun h1=>?_) (fun h1=>?_)
 ·have c1:w≤(l.length:Int):=of_decide_eq_true (hcm _ h1)
  have et:G.tu (G.du l 0) w=l.take w.toNat:=by subst hG;simp [std]
  refine ⟨by subst hG;simp only [std];omega,?_⟩
  have c2:w.toNat≤l.length:=by omega
  refine call hG [] (clone_ok (G.tu (G.du l 0) w) (by rw [et];intro e;have:=congrArg List.length e;rw [List.length_take] at this;cases l with | nil=>exact hne rfl | cons a l=>simp at this;omega) (by rw [et,List.length_take];omega)) ⟨rfl,rfl,rfl⟩ ?_
  rintro _ _ ⟨L,rfl,rfl,hL⟩
  cbv
  refine okd hG rfl ?_
  exact hq' _ (by rw [hL,et,rsz,if_pos c2])
 ·have c1:¬ w≤(l.length:Int):=of_decide_eq_false (hcm _ h1)
  have c2:¬ w.toNat≤l.length:=by omega
  have c3:G.lu l<w∧w<2^14:=by rw [e1];omega
  refine hR _ ?_
  clear hR R
  refine sws_seq hG fun R hR=>?_
  cbv
  refine hR _ ?_
  clear hR R
  refine sws_seq hG fun R hR=>?_
  cbv
  refine SX.ite hG (fun h2=>?_) (fun h2=>?_)
  ·refine ⟨i1,i1,?_⟩
   refine hR _ ?_
   refine sws_env (stR l s w (G.lu l) (G.gu l (G.ar .sub .i64 (G.lu l) 1))).env ?_ ?_
   ·cbv<;>simp
   ·subst hD
    refine resize_tail m0 h0 l s w (G.lu l) _ hne e1 hl c3 q fun L hL=>hq' L ?_
    rw [hL,rsz,if_neg c2,top,if_pos h2,hs1]
    subst hG;rfl
  ·refine hR _ ?_
   refine sws_env (stR l s w (G.lu l) 0).env ?_ ?_
   ·cbv<;>simp
   ·subst hD
    refine resize_tail m0 h0 l s w (G.lu l) 0 hne e1 hl c3 q fun L hL=>hq' L ?_
    rw [hL,rsz,if_neg c2,top,if_neg (by rw [h2];decide)]
end Go.Proofs.YtdgbdkfoeaollaaGreatDoor.V
end
