/- The shifts by name; Pow. -/
import Derived.Test.YtdgbdkfoeaollaaGreatDoorVZc
import Derived.Test.YtdgbdkfoeaollaaGreatDoorALe
set_option linter.unusedSimpArgs false
set_option linter.unusedVariables false
set_option maxRecDepth 100000
set_option cbv.maxSteps 4000000
set_option maxHeartbeats 4000000
namespace Go.Proofs.YtdgbdkfoeaollaaGreatDoor.V
open Go Go.AL Go.SX
theorem none_ok (L:List Int) (g:Bool):FvC CX TB (.f 121 [] []) [.a [.u L,.b g]] [] (RI .u8 0):=by
 refine fn_ok rfl rfl fun B D G hG q hq=>?_
 cbv
 exact hq _ _ ⟨_,rfl,rfl,rfl⟩
theorem ashr1_ok (L:List Int) (g:Bool) (h:NV L):FvC CX TB (.f 122 [] []) [.a [.u L,.b g]] [] (RI .u8 (top L g)):=by
 have hp:=List.length_pos_iff.2 h.ne
 have hl:=h.len
 refine fn_ok rfl rfl fun B D G hG q hq=>?_
 cbv
 refine SX.ite hG (fun h1=>?_) (fun h1=>?_)
 ·have e0:G.ar .sub .i64 (G.lu L) (Int.ofNat 1)=((L.length-1:Nat):Int):=by
   rw [subi hG (by rw [hG];show _≤(L.length:Int)-1∧(L.length:Int)-1<_;omega),hG]
   show (L.length:Int)-1=_
   omega
  have v1:G.ix (G.ar .sub .i64 (G.lu L) (Int.ofNat 1)) (G.lu L):=by rw [e0,hG];show 0≤((L.length-1:Nat):Int)∧((L.length-1:Nat):Int)<(L.length:Int);omega
  have e1:G.gu L (G.ar .sub .i64 (G.lu L) (Int.ofNat 1))=top L g:=by unfold top;rw [if_pos h1,e0,hG];rfl
  exact ⟨v1,hq _ _ ⟨_,rfl,rfl,e1⟩⟩
 ·exact hq _ _ ⟨_,rfl,rfl,by unfold top;rw [h1];rfl⟩
section
variable (l m:List Int) (s t:Bool) (hl:l.length<2^14) (hm:m.length<2^14) (bl:Byt l) (bm:Byt m)
include hl hm bl bm
theorem vshl_ok:FvC CX TB (.f 36 [] []) [.a [.u l,.b s],.a [.u m,.b t]] [] (RV (shL (-1) (fun _ _=>0) l s m) (nS l s)):=by
 refine fn_ok rfl rfl fun B D G hG q hq=>?_
 cbv
 refine call hG [] (shift_ok l m s t hl hm bl bm (-1) (.inr rfl) 121 [] [] (fun _ _=>0) (fun L g _=>fq_ok (none_ok L g))) ⟨rfl,rfl,rfl⟩ ?_
 rintro _ _ ⟨L,h,rfl,rfl,hL,hh⟩
 cbv
 exact hq _ _ ⟨_,_,rfl,rfl,hL,hh⟩
theorem vshr_ok:FvC CX TB (.f 37 [] []) [.a [.u l,.b s],.a [.u m,.b t]] [] (RV (shL 1 (fun _ _=>0) l s m) (nS l s)):=by
 refine fn_ok rfl rfl fun B D G hG q hq=>?_
 cbv
 refine call hG [] (shift_ok l m s t hl hm bl bm 1 (.inl rfl) 121 [] [] (fun _ _=>0) (fun L g _=>fq_ok (none_ok L g))) ⟨rfl,rfl,rfl⟩ ?_
 rintro _ _ ⟨L,h,rfl,rfl,hL,hh⟩
 cbv
 exact hq _ _ ⟨_,_,rfl,rfl,hL,hh⟩
theorem vashl_ok:FvC CX TB (.f 39 [] []) [.a [.u l,.b s],.a [.u m,.b t]] [] (RV (shL (-1) (fun _ _=>0) l s m) (nS l s)):=by
 refine fn_ok rfl rfl fun B D G hG q hq=>?_
 cbv
 refine call hG [] (vshl_ok l m s t hl hm bl bm) ⟨rfl,rfl,rfl⟩ ?_
 rintro _ _ ⟨L,h,rfl,rfl,hL,hh⟩
 cbv
 exact hq _ _ ⟨_,_,rfl,rfl,hL,hh⟩
theorem vashr_ok:FvC CX TB (.f 38 [] []) [.a [.u l,.b s],.a [.u m,.b t]] [] (RV (shL 1 top l s m) (nS l s)):=by
 refine fn_ok rfl rfl fun B D G hG q hq=>?_
 cbv
 refine call hG [] (shift_ok l m s t hl hm bl bm 1 (.inl rfl) 122 [] [] top (fun L g h=>fq_ok (ashr1_ok L g h))) ⟨rfl,rfl,rfl⟩ ?_
 rintro _ _ ⟨L,h,rfl,rfl,hL,hh⟩
 cbv
 exact hq _ _ ⟨_,_,rfl,rfl,hL,hh⟩
end
def powL (l:List Int) (s:Bool) (m:List Int) (t:Bool):List Int:=
 if !(kn (nB l)&&kn (nB m)) then List.replicate (nB l).length 2
 else if !(nS m t)||gu (nB m) ((nB m).length-1:Nat) == 0 then intL (powF (boolL (nB l)) (boolL (nB m)))
 else if fitB (vval (nB l) (nS l s))&&fitI (vval (nB l) (nS l s)) == 0 then List.replicate (nB l).length 2
 else if (fitB (vval (nB l) (nS l s))&&fitI (vval (nB l) (nS l s)) == 1)||((fitB (vval (nB l) (nS l s))&&fitI (vval (nB l) (nS l s)) == -1)&&gu (nB m) 0 == 1) then nB l
 else if fitB (vval (nB l) (nS l s))&&fitI (vval (nB l) (nS l s)) == -1 then negL (nB l) (nS l s)
 else List.replicate (nB l).length 0
theorem neg_sg {M:List Int} {t:Bool} (h:NV M):bg (List.replicate M.length 0) t M t=t:=by
 have hp:=List.length_pos_iff.2 h.ne
 have hz:NV (List.replicate M.length 0):=⟨by intro e;have:=congrArg List.length e;rw [List.length_replicate] at this;exact h.ne (List.length_eq_zero_iff.1 this),by rw [List.length_replicate];exact h.len,fun x hx=>by rw [(List.mem_replicate.1 hx).2];constructor<;>decide⟩
 unfold bg
 rw [nS_id hz,nS_id h];cases t<;>rfl
theorem ite_t {B:AH} {D:Bs} {G:Sg} (hG:G=std CX TB B D) {c:Bool} {P Q:Prop} (hc:c=true) (h:P):G.ite c P Q:=by
 subst hG hc;exact ⟨fun _=>h,fun h=>(by cases h)⟩
theorem ite_f {B:AH} {D:Bs} {G:Sg} (hG:G=std CX TB B D) {c:Bool} {P Q:Prop} (hc:c=false) (h:Q):G.ite c P Q:=by
 subst hG hc;exact ⟨fun h=>(by cases h),fun _=>h⟩
theorem vpow_ok (l m:List Int) (s t:Bool) (hl:l.length<2^14) (hm:m.length<2^14) (bl:Byt l) (bm:Byt m):FvC CX TB (.f 35 [] []) [.a [.u l,.b s],.a [.u m,.b t]] [] (RV (powL l s m t) (nS l s)):=by
 have nvl:=nB_nv bl
 have nvm:=nB_nv bm
 refine fn_sws rfl rfl fun B d q hq=>?_
 obtain ⟨G,hG⟩:∃ G,G=std CX TB B ⟨d,fun _=>none⟩:=⟨_,rfl⟩
 refine sws_seq hG fun R hR=>?_
 cbv
 refine hR _ ?_
 clear hR R
 refine sws_seq hG fun R hR=>?_
 cbv
 refine call hG [] (norm_ok l s (by omega)) ⟨rfl,rfl,rfl⟩ ?_
 rintro _ _ ⟨L,g,rfl,rfl,hL,hg⟩
 cbv
 refine call hG [] (norm_ok m t (by omega)) ⟨rfl,rfl,rfl⟩ ?_
 rintro _ _ ⟨M,h,rfl,rfl,hM,hh⟩
 cbv
 refine okd hG (by kernel_rfl) ?_
 have nL:NV L:=by rw [hL];exact nvl
 have nM:NV M:=by rw [hM];exact nvm
 have lL:=nL.len
 have lM:=nM.len
 have pM:=List.length_pos_iff.2 nM.ne
 unfold powL at hq
 rw [←hL,←hM,←hg,←hh] at hq
 clear hL hM hg hh nvl nvm
 have hfw:0≤G.lu L∧G.lu L<2^15:=by rw [hG];show 0≤((L.length:Nat):Int)∧((L.length:Nat):Int)<2^15;omega
 refine hR _ ?_
 clear hR R
 refine sws_seq hG fun R hR=>?_
 cbv
 refine call hG [] (fill_ok (.ofNat 2) (G.lu L) g hfw) ⟨rfl,rfl,rfl⟩ ?_
 rintro _ _ ⟨U,u,rfl,rfl,hU,hu⟩
 cbv
 have eU:U=List.replicate L.length 2:=by rw [hU,hG];rfl
 refine hR _ ?_
 clear hR R
 refine sws_seq hG fun R hR=>?_
 cbv
 cases hkl:kn (nB L) with
 | false=>
   refine call hG [] (kbr (c:=false) (vknown_ok L g (by omega)) hkl) ⟨rfl,rfl,rfl⟩ ?_
   rintro _ _ ⟨rfl,rfl⟩
   cbv
   exact hq _ _ ⟨_,_,rfl,rfl,by rw [nB_id nL] at hkl;rw [hkl];exact eU,hu⟩
 | true=>
   refine call hG [] (kbr (c:=true) (vknown_ok L g (by omega)) hkl) ⟨rfl,rfl,rfl⟩ ?_
   rintro _ _ ⟨rfl,rfl⟩
   cbv
   cases hkm:kn (nB M) with
   | false=>
     refine call hG [] (kbr (c:=false) (vknown_ok M h (by omega)) hkm) ⟨rfl,rfl,rfl⟩ ?_
     rintro _ _ ⟨rfl,rfl⟩
     cbv
     exact hq _ _ ⟨_,_,rfl,rfl,by rw [nB_id nL] at hkl;rw [nB_id nM] at hkm;rw [hkl,hkm];exact eU,hu⟩
   | true=>
     refine call hG [] (kbr (c:=true) (vknown_ok M h (by omega)) hkm) ⟨rfl,rfl,rfl⟩ ?_
     rintro _ _ ⟨rfl,rfl⟩
     cbv
     rw [nB_id nL] at hkl
     rw [nB_id nM] at hkm
     rw [hkl,hkm] at hq
     rw [if_neg (by decide)] at hq
     refine hR _ ?_
     clear hR R
     refine sws_seq hG fun R hR=>?_
     cbv
     have e0:G.ar .sub .i64 (G.lu M) (Int.ofNat 1)=((M.length-1:Nat):Int):=by
      rw [subi hG (by rw [hG];show _≤((M.length:Nat):Int)-1∧((M.length:Nat):Int)-1<_;omega),hG]
      show ((M.length:Nat):Int)-1=_
      omega
     have v1:G.ix (G.ar .sub .i64 (G.lu M) (Int.ofNat 1)) (G.lu M):=by rw [e0,hG];show 0≤((M.length-1:Nat):Int)∧((M.length-1:Nat):Int)<((M.length:Nat):Int);omega
     have e1:G.gu M (G.ar .sub .i64 (G.lu M) (Int.ofNat 1))=gu M (M.length-1:Nat):=by rw [e0,hG];rfl
     refine SX.ite hG (fun h1=>?_) (fun h1=>?_)
     ·have h1:h=false:=by rw [hG] at h1;simpa [std] using h1
      rw [if_pos (by rw [h1];rfl)] at hq
      refine call hG [] (bools_ok L g (by omega)) ⟨rfl,rfl,rfl⟩ ?_
      rintro _ _ ⟨x,rfl,rfl,hx⟩
      cbv
      refine call hG [] (bools_ok M h (by omega)) ⟨rfl,rfl,rfl⟩ ?_
      rintro _ _ ⟨y,rfl,rfl,hy⟩
      cbv
      refine call hG [] (bpow_ok x y (by rw [hx,boolL_len];omega) (by rw [hy,boolL_len];omega)) ⟨rfl,rfl,rfl⟩ ?_
      rintro _ _ ⟨z,rfl,rfl,hz⟩
      cbv
      refine call hG [] (vector_ok z g (by rw [hz,hx];show (X.ofN _ _).length<_;rw [ofN_len,boolL_len];omega)) ⟨rfl,rfl,rfl⟩ ?_
      rintro _ _ ⟨Z,z',rfl,rfl,hZ,hz'⟩
      cbv
      exact okd hG (by kernel_rfl) (hq _ _ ⟨_,_,rfl,rfl,by rw [hZ,hz,hx,hy],hz'⟩)
     have h1:h=true:=by rw [hG] at h1;simpa [std] using h1
     refine ⟨v1,v1,?_⟩
     refine SX.ite hG (fun h2=>?_) (fun h2=>?_)
     ·have h2:G.cmp .eql (G.gu M (G.ar .sub .i64 (G.lu M) (Int.ofNat 1))) 0=true:=h2
      rw [e1,hG] at h2
      have h2:(gu M (M.length-1:Nat) == 0)=true:=h2
      rw [if_pos (by rw [h2,Bool.or_true])] at hq
      refine call hG [] (bools_ok L g (by omega)) ⟨rfl,rfl,rfl⟩ ?_
      rintro _ _ ⟨x,rfl,rfl,hx⟩
      cbv
      refine call hG [] (bools_ok M h (by omega)) ⟨rfl,rfl,rfl⟩ ?_
      rintro _ _ ⟨y,rfl,rfl,hy⟩
      cbv
      refine call hG [] (bpow_ok x y (by rw [hx,boolL_len];omega) (by rw [hy,boolL_len];omega)) ⟨rfl,rfl,rfl⟩ ?_
      rintro _ _ ⟨z,rfl,rfl,hz⟩
      cbv
      refine call hG [] (vector_ok z g (by rw [hz,hx];show (X.ofN _ _).length<_;rw [ofN_len,boolL_len];omega)) ⟨rfl,rfl,rfl⟩ ?_
      rintro _ _ ⟨Z,z',rfl,rfl,hZ,hz'⟩
      cbv
      exact okd hG (by kernel_rfl) (hq _ _ ⟨_,_,rfl,rfl,by rw [hZ,hz,hx,hy],hz'⟩)
     have h2:G.cmp .eql (G.gu M (G.ar .sub .i64 (G.lu M) (Int.ofNat 1))) 0=false:=h2
     rw [e1,hG] at h2
     have h2:(gu M (M.length-1:Nat) == 0)=false:=h2
     rw [if_neg (by rw [h1,h2];decide)] at hq
     clear e0 v1 e1
     refine hR _ ?_
     clear hR R
     refine sws_env ((((T.nil.set 2 (SV.o 0 0)).set 3 (.o 1 0)).set 4 (.o 2 0)).set 5 (.o 6 0)) (by cbv<;>simp) ?_
     refine sws_seq hG fun R hR=>?_
     cbv
     refine call hG [] (vint_ok L g (by omega) (byt_nv nL)) ⟨rfl,rfl,rfl⟩ ?_
     rintro _ _ ⟨n,o,rfl,rfl,hn,ho⟩
     cbv
     rw [nB_id nL,nS_id nL,hkl,if_pos rfl] at hn
     rw [nB_id nL,nS_id nL,hkl,Bool.true_and] at ho
     rw [←hn,←ho] at hq
     clear hn ho
     refine hR _ ?_
     clear hR R
     refine sws_W hG ?_
     cbv
     have k0:G.cmp .eql n (Int.ofNat 0)=(n == 0):=by rw [hG];rfl
     have k1:G.cmp .eql n (Int.ofNat 1)=(n == 1):=by rw [hG];rfl
     have k2:G.cmp .eql n (Int.negSucc 0)=(n == -1):=by rw [hG];rfl
     have k3:G.cmp .eql (G.gu M (Int.ofNat 0)) (Int.ofNat 1)=(gu M 0 == 1):=by rw [hG];rfl
     have v0:G.ix (Int.ofNat 0) (G.lu M):=by rw [hG];show (0:Int)≤0∧(0:Int)<((M.length:Nat):Int);omega
     have hfin:∀ (Z:List Int) (z:Bool),Z=List.replicate (G.lu L).toNat 0→z=g→Z=List.replicate L.length 0∧z=g:=fun Z z h1 h2=>⟨by rw [h1,hG];rfl,h2⟩
     have hsg:=neg_sg (t:=g) nL
     cases o with
     | false=>
       simp only [Bool.false_and,Bool.or_self,if_neg Bool.false_ne_true] at hq
       repeat (refine ite_f hG rfl ?_)
       refine call hG [] (fill_ok (.ofNat 0) (G.lu L) g hfw) ⟨rfl,rfl,rfl⟩ ?_
       rintro _ _ ⟨Z,z,rfl,rfl,hZ,hz⟩
       cbv
       exact hq _ _ ⟨_,_,rfl,rfl,(hfin Z z hZ hz).1,hz⟩
     | true=>
       simp only [Bool.true_and] at hq
       cases h0:(n == 0) with
       | true=>
         rw [h0] at k0
         rw [h0,if_pos rfl] at hq
         refine ite_t hG rfl (ite_t hG k0 ?_)
         exact hq _ _ ⟨_,_,rfl,rfl,eU,hu⟩
       | false=>
         rw [h0] at k0
         rw [h0,if_neg Bool.false_ne_true] at hq
         refine ite_t hG rfl (ite_f hG k0 ?_)
         cases h1:(n == 1) with
         | true=>
           rw [h1] at k1
           rw [h1,Bool.true_or,if_pos rfl] at hq
           refine ite_t hG rfl (ite_t hG k1 ?_)
           exact hq _ _ ⟨_,_,rfl,rfl,rfl,rfl⟩
         | false=>
           rw [h1] at k1
           rw [h1,Bool.false_or] at hq
           refine ite_t hG rfl (ite_f hG k1 ?_)
           cases h2:(n == -1) with
           | true=>
             rw [h2] at k2
             rw [h2,Bool.true_and] at hq
             refine ite_t hG rfl (ite_t hG k2 ⟨v0,v0,?_⟩)
             cases h3:(gu M 0 == 1) with
             | true=>
               rw [h3] at k3
               rw [h3,if_pos rfl] at hq
               refine ite_t hG k3 ?_
               exact hq _ _ ⟨_,_,rfl,rfl,rfl,rfl⟩
             | false=>
               rw [h3] at k3
               rw [h3,if_neg Bool.false_ne_true,if_pos rfl] at hq
               refine ite_f hG k3 (ite_t hG rfl (ite_t hG k2 ?_))
               refine call hG [] (vneg_ok L g (by omega) (byt_nv nL)) ⟨rfl,rfl,rfl⟩ ?_
               rintro _ _ ⟨Z,z,rfl,rfl,hZ,hz⟩
               cbv
               rw [nB_id nL,nS_id nL,hsg] at hz
               exact hq _ _ ⟨_,_,rfl,rfl,hZ,hz⟩
           | false=>
             rw [h2] at k2
             rw [h2,Bool.false_and,if_neg Bool.false_ne_true,if_neg Bool.false_ne_true] at hq
             refine ite_t hG rfl (ite_f hG k2 (ite_t hG rfl (ite_f hG k2 ?_)))
             refine call hG [] (fill_ok (.ofNat 0) (G.lu L) g hfw) ⟨rfl,rfl,rfl⟩ ?_
             rintro _ _ ⟨Z,z,rfl,rfl,hZ,hz⟩
             cbv
             exact hq _ _ ⟨_,_,rfl,rfl,(hfin Z z hZ hz).1,hz⟩
end Go.Proofs.YtdgbdkfoeaollaaGreatDoor.V
