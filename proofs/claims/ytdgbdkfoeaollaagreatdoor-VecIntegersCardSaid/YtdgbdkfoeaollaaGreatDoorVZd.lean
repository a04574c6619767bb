/- The shifts by name; Pow. -/
import Derived.Test.YtdgbdkfoeaollaaGreatDoorVZc
import Derived.Test.YtdgbdkfoeaollaaGreatDoorALe
set_option linter.unusedSimpArgs false
set_option linter.unusedVariables false
set_option maxRecDepth 100000
set_option cbv.maxSteps 4000000
set_option maxHeartbeats 4000000
namespace Go.Proofs.YtdgbdkfoeaollaaGreatDoor.V
open Go Go.AL Go.SX
theorem none_ok (L:List Int) (g:Bool):FvC CX TB (.f 121 [] []) [.a [.u L,.b g]] [] (RI .u8 0):=by
 refine fn_ok rfl rfl fun B D G hG q hq=>?_
 cbv
 exact hq _ _ ⟨_,rfl,rfl,rfl⟩
theorem ashr1_ok (L:List Int) (g:Bool) (h:NV L):FvC CX TB (.f 122 [] []) [.a [.u L,.b g]] [] (RI .u8 (top L g)):=by
 have hp:=List.length_pos_iff.2 h.ne
 have hl:=h.len
 refine fn_ok rfl rfl fun B D G hG q hq=>?_
 cbv
 refine SX.ite hG (fun h1=>?_) (fun h1=>?_)
 ·have e0:G.ar .sub .i64 (G.lu L) (Int.ofNat 1)=((L.length-1:Nat):Int):=by
   rw [subi hG (by rw [hG];show _≤(L.length:Int)-1∧(L.length:Int)-1<_;omega),hG]
   show (L.length:Int)-1=_
   omega
  have v1:G.ix (G.ar .sub .i64 (G.lu L) (Int.ofNat 1)) (G.lu L):=by rw [e0,hG];show 0≤((L.length-1:Nat):Int)∧((L.length-1:Nat):Int)<(L.length:Int);omega
  have e1:G.gu L (G.ar .sub .i64 (G.lu L) (Int.ofNat 1))=top L g:=by unfold top;rw [if_pos h1,e0,hG];rfl
  exact ⟨v1,hq _ _ ⟨_,rfl,rfl,e1⟩⟩
 ·exact hq _ _ ⟨_,rfl,rfl,by unfold top;rw [h1];rfl⟩
section
variable (l m:List Int) (s t:Bool) (hl:l.length<2^14) (hm:m.length<2^14) (bl:Byt l) (bm:Byt m)
include hl hm bl bm
theorem vshl_ok:FvC CX TB (.f 36 [] []) [.a [.u l,.b s],.a [.u m,.b t]] [] (RV (shL (-1) (fun _ _=>0) l s m) (nS l s)):=by
 refine fn_ok rfl rfl fun B D G hG q hq=>?_
 cbv
 refine call hG [] (shift_ok l m s t hl hm bl bm (-1) (.inr rfl) 121 [] [] (fun _ _=>0) (fun L g _=>fq_ok (none_ok L g))) ⟨rfl,rfl,rfl⟩ ?_
 rintro _ _ ⟨L,h,rfl,rfl,hL,hh⟩
 cbv
 exact hq _ _ ⟨_,_,rfl,rfl,hL,hh⟩
theorem vashr_ok:FvC CX TB (.f 38 [] []) [.a [.u l,.b s],.a [.u m,.b t]] [] (RV (shL 1 top l s m) (nS l s)):=by
 refine fn_ok rfl rfl fun B D G hG q hq=>?_
 cbv
 refine call hG [] (shift_ok l m s t hl hm bl bm 1 (.inl rfl) 122 [] [] top (fun L g h=>fq_ok (ashr1_ok L g h))) ⟨rfl,rfl,rfl⟩ ?_
 rintro _ _ ⟨L,h,rfl,rfl,hL,hh⟩
 cbv
 exact hq _ _ ⟨_,_,rfl,rfl,hL,hh⟩
end
theorem neg_sg {M:List Int} {t:Bool} (h:NV M):bg (List.replicate M.length 0) t M t=t:=by
 have hp:=List.length_pos_iff.2 h.ne
 have hz:NV (List.replicate M.length 0):=⟨by intro e;have:=congrArg List.length e;rw [List.length_replicate] at this;exact h.ne (List.length_eq_zero_iff.1 this),by rw [List.length_replicate];exact h.len,fun x hx=>by rw [(List.mem_replicate.1 hx).2];constructor<;>decide⟩
 unfold bg
 rw [nS_id hz,nS_id h];cases t<;>rfl
theorem ite_t {B:AH} {D:Bs} {G:Sg} (hG:G=std CX TB B D) {c:Bool} {P Q:Prop} (hc:c=true) (h:P):G.ite c P Q:=by
 subst hG hc;exact ⟨fun _=>h,fun h=>(by cases h)⟩
theorem ite_f {B:AH} {D:Bs} {G:Sg} (hG:G=std CX TB B D) {c:Bool} {P Q:Prop} (hc:c=false) (h:Q):G.ite c P Q:=by
 subst hG hc;exact ⟨fun h=>(by cases h),fun _=>h⟩
end Go.Proofs.YtdgbdkfoeaollaaGreatDoor.V
