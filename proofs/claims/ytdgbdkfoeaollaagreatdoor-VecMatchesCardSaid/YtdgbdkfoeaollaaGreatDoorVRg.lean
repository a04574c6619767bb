/- The reference: shift (printed by VRg.py). -/
import Derived.Test.YtdgbdkfoeaollaaGreatDoorVZe
import Derived.Test.YtdgbdkfoeaollaaGreatDoorALe
set_option linter.unusedSimpArgs false
set_option linter.unusedVariables false
set_option maxRecDepth 100000
set_option cbv.maxSteps 4000000
set_option maxHeartbeats 4000000
namespace Go.Proofs.YtdgbdkfoeaollaaGreatDoor.V
open Go Go.AL Go.SX
def shD (op:Int):Int:=if op=41∨op=43 then -1 else 1
def shQ (op:Int):List Int→Bool→Int:=if op=44 then top else fun _ _=>0
theorem shM_app {L:List Int} {dir:Int} {n:Nat} {f:Int} {k:Nat}:(List.range (k+1)).map (shF L dir n f)=(List.range k).map (shF L dir n f)++[shF L dir n f k]:=by
 rw [List.range_succ,List.map_append];rfl
def stS7 (op:Int) (L M:List Int) (g h:Bool) (n:Int):SX.St:=⟨((((T.nil.set 0 (SV.i .u8 op)).set 4 (.o 0 0)).set 5 (.o 1 0)).set 6 (.o 2 0)).set 7 (.i .i64 n),[.x [.s 3,.b g],.x [.s 4,.b h],.x [.nil,.kb false],.u L,.u M]⟩
def stS8 (op:Int) (L M:List Int) (g h:Bool) (n f:Int):SX.St:=⟨(((((T.nil.set 0 (SV.i .u8 op)).set 4 (.o 0 0)).set 5 (.o 1 0)).set 6 (.o 2 0)).set 7 (.i .i64 n)).set 10 (.i .u8 f),[.x [.s 3,.b g],.x [.s 4,.b h],.x [.nil,.kb false],.u L,.u M]⟩
theorem rsh_tail8 {B:AH} {d:Nat→Prop} (op:Int) (L M:List Int) (g h:Bool) (n:Nat) (N f:Int) (nL:NV L) (hN:N=(n:Int)) (hn:n≤128) (q:SV→List SX.Obj→Prop) (hq:∀ Z z,Z=(List.range L.length).map (shF L (shD op) n f)→z=g→q (.a [.s 0,.b z]) [.u Z]) :
  SWs CX TB B ⟨d,fun _=>none⟩ (dropC 8 IR.fi157.code) (stS8 op L M g h N f) (post [.cell 6 (some 2)] q):=by
 have lL:=nL.len
 obtain ⟨G,hG⟩:∃ G,G=std CX TB B ⟨d,fun _=>none⟩:=⟨_,rfl⟩
 refine sws_W hG ?_
 cbv
 refine lp_regB hG 5 0 (.u []) rfl rfl ?_
 refine lp hG (α:=Int×List Int) (fun p=>∃ k:Nat,p.1=(k:Int)∧k≤L.length∧p.2=(List.range k).map (shF L (shD op) n f)) (fun p=>L.length-p.1.toNat) (fun s p=>(s.put (some 12) (.i .i64 p.1)).setO 6 (.u p.2)) (0,[]) ⟨0,rfl,Nat.zero_le _,rfl⟩ (by constructor<;>cbv<;>simp) ?_
 rintro ⟨j,W⟩ ⟨k,hj,hk,hW⟩
 have hW:W=(List.range k).map (shF L (shD op) n f):=hW
 have hlen:W.length=k:=by rw [hW,List.length_map,List.length_range]
 cbv
 have hj:j=(k:Int):=hj
 have hN:N=(n:Int):=hN
 have hn:n≤128:=hn
 refine SX.ite hG (fun h3=>?_) (fun h3=>?_)
 ·have h3:k<L.length:=by
   rw [hG,hj] at h3
   have h3:(k:Int)<(L.length:Int):=of_decide_eq_true h3
   omega
  have hap:∀ x:Int,G.ap (G.lu W) (G.lu [x]):=fun x=>by subst hG;simp only [std];simp;omega
  have eap:∀ x:Int,x=shF L (shD op) n f k→G.apu W [x]=(List.range (k+1)).map (shF L (shD op) n f):=fun x hx=>by rw [shM_app,←hW,←hx,hG];rfl
  have eadd:G.ar .add .i64 j N=(k:Int)+n:=by rw [addi hG (by rw [hj,hN];omega),hj,hN]
  have esub:G.ar .sub .i64 j N=(k:Int)-n:=by rw [subi hG (by rw [hj,hN];omega),hj,hN]
  have inR:∀ (e c:Int),c=(k:Int)+shD op*(n:Int)→G.cmp .geq c 0=true→G.cmp .lss c (G.lu L)=true→G.ix c (G.lu L)∧G.gu L c=shF L (shD op) n f k:=fun _ c hc h1 h2=>by
   rw [hG] at h1 h2 ⊢
   have h1:c≥0:=of_decide_eq_true h1
   have h2:c<(L.length:Int):=of_decide_eq_true h2
   refine ⟨⟨h1,h2⟩,?_⟩
   unfold shF
   rw [if_pos (by omega),←hc];rfl
  have out1:∀ c:Int,c=(k:Int)+shD op*(n:Int)→G.cmp .geq c 0=false→f=shF L (shD op) n f k:=fun c hc h1=>by
   rw [hG] at h1
   have h1:¬ c≥0:=of_decide_eq_false h1
   unfold shF
   rw [if_neg (by omega)]
  have out2:∀ c:Int,c=(k:Int)+shD op*(n:Int)→G.cmp .lss c (G.lu L)=false→f=shF L (shD op) n f k:=fun c hc h1=>by
   rw [hG] at h1
   have h1:¬ c<(L.length:Int):=of_decide_eq_false h1
   unfold shF
   rw [if_neg (by omega)]
  refine SX.ite hG (fun k1=>?_) (fun k1=>?_)
  ·have d1:shD op=-1:=if_pos (.inl (cmp_t hG k1))
   have ec:G.ar .sub .i64 j N=(k:Int)+shD op*(n:Int):=by rw [d1,esub];omega
   refine SX.ite hG (fun p1=>?_) (fun p1=>?_)
   ·refine SX.ite hG (fun p2=>?_) (fun p2=>?_)
    ·have a:=inR 0 _ ec p1 p2
     refine ⟨a.1,a.1,hap _,okd hG (by kernel_rfl) ?_⟩
     exact ⟨(G.ar .add .i64 j (Int.ofNat 1),G.apu W [G.gu L (G.ar .sub .i64 j N)]),⟨k+1,inc hG hj (by omega),h3,eap _ a.2⟩,mu hj (inc hG hj (by omega)) h3,by constructor<;>cbv<;>simp⟩
    refine ⟨hap _,?_⟩
    exact ⟨(G.ar .add .i64 j (Int.ofNat 1),G.apu W [f]),⟨k+1,inc hG hj (by omega),h3,eap _ (out2 _ ec p2)⟩,mu hj (inc hG hj (by omega)) h3,by constructor<;>cbv<;>simp⟩
   refine ⟨hap _,?_⟩
   exact ⟨(G.ar .add .i64 j (Int.ofNat 1),G.apu W [f]),⟨k+1,inc hG hj (by omega),h3,eap _ (out1 _ ec p1)⟩,mu hj (inc hG hj (by omega)) h3,by constructor<;>cbv<;>simp⟩
  refine SX.ite hG (fun k2=>?_) (fun k2=>?_)
  ·have d1:shD op=-1:=if_pos (.inr (cmp_t hG k2))
   have ec:G.ar .sub .i64 j N=(k:Int)+shD op*(n:Int):=by rw [d1,esub];omega
   refine SX.ite hG (fun p1=>?_) (fun p1=>?_)
   ·refine SX.ite hG (fun p2=>?_) (fun p2=>?_)
    ·have a:=inR 0 _ ec p1 p2
     refine ⟨a.1,a.1,hap _,okd hG (by kernel_rfl) ?_⟩
     exact ⟨(G.ar .add .i64 j (Int.ofNat 1),G.apu W [G.gu L (G.ar .sub .i64 j N)]),⟨k+1,inc hG hj (by omega),h3,eap _ a.2⟩,mu hj (inc hG hj (by omega)) h3,by constructor<;>cbv<;>simp⟩
    refine ⟨hap _,?_⟩
    exact ⟨(G.ar .add .i64 j (Int.ofNat 1),G.apu W [f]),⟨k+1,inc hG hj (by omega),h3,eap _ (out2 _ ec p2)⟩,mu hj (inc hG hj (by omega)) h3,by constructor<;>cbv<;>simp⟩
   refine ⟨hap _,?_⟩
   exact ⟨(G.ar .add .i64 j (Int.ofNat 1),G.apu W [f]),⟨k+1,inc hG hj (by omega),h3,eap _ (out1 _ ec p1)⟩,mu hj (inc hG hj (by omega)) h3,by constructor<;>cbv<;>simp⟩
  have d1:shD op=1:=if_neg (by rintro (h | h);exact cmp_f hG k1 h;exact cmp_f hG k2 h)
  have ec:G.ar .add .i64 j N=(k:Int)+shD op*(n:Int):=by rw [d1,eadd];omega
  refine SX.ite hG (fun p1=>?_) (fun p1=>?_)
  ·refine SX.ite hG (fun p2=>?_) (fun p2=>?_)
   ·have a:=inR 0 _ ec p1 p2
    refine ⟨a.1,a.1,hap _,okd hG (by kernel_rfl) ?_⟩
    exact ⟨(G.ar .add .i64 j (Int.ofNat 1),G.apu W [G.gu L (G.ar .add .i64 j N)]),⟨k+1,inc hG hj (by omega),h3,eap _ a.2⟩,mu hj (inc hG hj (by omega)) h3,by constructor<;>cbv<;>simp⟩
   refine ⟨hap _,?_⟩
   exact ⟨(G.ar .add .i64 j (Int.ofNat 1),G.apu W [f]),⟨k+1,inc hG hj (by omega),h3,eap _ (out2 _ ec p2)⟩,mu hj (inc hG hj (by omega)) h3,by constructor<;>cbv<;>simp⟩
  refine ⟨hap _,?_⟩
  exact ⟨(G.ar .add .i64 j (Int.ofNat 1),G.apu W [f]),⟨k+1,inc hG hj (by omega),h3,eap _ (out1 _ ec p1)⟩,mu hj (inc hG hj (by omega)) h3,by constructor<;>cbv<;>simp⟩
 ·have h3:L.length≤k:=by
   rw [hG,hj] at h3
   have h3:¬ (k:Int)<(L.length:Int):=of_decide_eq_false h3
   omega
  exact hq _ _ (by rw [hW,show k=L.length by omega]) rfl
theorem rsh_tail7 {B:AH} {d:Nat→Prop} (op:Int) (L M:List Int) (g h:Bool) (n:Nat) (N:Int) (nL:NV L) (hN:N=(n:Int)) (hn:n≤128) (q:SV→List SX.Obj→Prop) (hq:∀ Z z,Z=(List.range L.length).map (shF L (shD op) n (shQ op L g))→z=g→q (.a [.s 0,.b z]) [.u Z]) :
  SWs CX TB B ⟨d,fun _=>none⟩ (dropC 6 IR.fi157.code) (stS7 op L M g h N) (post [.cell 6 (some 2)] q):=by
 have lL:=nL.len
 have pL:=List.length_pos_iff.2 nL.ne
 obtain ⟨G,hG⟩:∃ G,G=std CX TB B ⟨d,fun _=>none⟩:=⟨_,rfl⟩
 refine sws_seq hG fun R hR=>?_
 cbv
 refine hR _ ?_
 clear hR R
 refine sws_seq hG fun R hR=>?_
 cbv
 refine SX.ite hG (fun k1=>?_) (fun k1=>?_)
 ·have k1:op=44:=cmp_t hG k1
  refine SX.ite hG (fun k2=>?_) (fun k2=>?_)
  ·have e0:G.ar .sub .i64 (G.lu L) (Int.ofNat 1)=((L.length-1:Nat):Int):=by
    rw [subi hG (by rw [hG];show _≤(L.length:Int)-1∧(L.length:Int)-1<_;omega),hG]
    show (L.length:Int)-1=_
    omega
   have v1:G.ix (G.ar .sub .i64 (G.lu L) (Int.ofNat 1)) (G.lu L):=by rw [e0,hG];show 0≤((L.length-1:Nat):Int)∧((L.length-1:Nat):Int)<(L.length:Int);omega
   have e1:G.gu L (G.ar .sub .i64 (G.lu L) (Int.ofNat 1))=shQ op L g:=by unfold shQ;rw [if_pos k1];unfold top;rw [if_pos k2,e0,hG];rfl
   refine ⟨v1,v1,hR _ (sws_le (s':=stS8 op L M g h N (G.gu L (G.ar .sub .i64 (G.lu L) (Int.ofNat 1)))) (by constructor<;>cbv<;>simp) (rsh_tail8 op L M g h n N _ nL hN hn q ?_))⟩
   rw [e1];exact hq
  ·exact hR _ (sws_le (s':=stS8 op L M g h N 0) (by constructor<;>cbv<;>simp) (rsh_tail8 op L M g h n N 0 nL hN hn q (by have e:shQ op L g=0:=by { unfold shQ;rw [if_pos k1];unfold top;rw [k2];rfl };rw [e] at hq;exact hq)))
 ·have k1:op≠44:=cmp_f hG k1
  exact hR _ (sws_le (s':=stS8 op L M g h N 0) (by constructor<;>cbv<;>simp) (rsh_tail8 op L M g h n N 0 nL hN hn q (by have e:shQ op L g=0:=by { unfold shQ;rw [if_neg k1] };rw [e] at hq;exact hq)))
theorem rshift_ok (op:Int) (l m:List Int) (s t:Bool) (hl:l.length<2^14) (hm:m.length<2^14) (bl:Byt l) (bm:Byt m) :
  FvC CX TB (.f 157 [] []) [.i .u8 op,.a [.u l,.b s],.a [.u m,.b t]] [] (RV (shL (shD op) (shQ op) l s m) (nS l s)):=by
 have nvl:=nB_nv bl
 have nvm:=nB_nv bm
 refine fn_sws rfl rfl fun B d q hq0=>?_
 have hq:∀ Z z,Z=shL (shD op) (shQ op) l s m→z=nS l s→q (.a [.s 0,.b z]) [.u Z]:=fun Z z h1 h2=>hq0 _ _ ⟨Z,z,rfl,rfl,h1,h2⟩
 clear hq0
 obtain ⟨G,hG⟩:∃ G,G=std CX TB B ⟨d,fun _=>none⟩:=⟨_,rfl⟩
 refine sws_seq hG fun R hR=>?_
 cbv
 refine hR _ ?_
 clear hR R
 refine sws_seq hG fun R hR=>?_
 cbv
 refine call hG [] (rnorm_ok l s (by omega)) ⟨rfl,rfl,rfl⟩ ?_
 rintro _ _ ⟨L,g,rfl,rfl,hL,hg⟩
 cbv
 refine call hG [] (rnorm_ok m t (by omega)) ⟨rfl,rfl,rfl⟩ ?_
 rintro _ _ ⟨M,h,rfl,rfl,hM,hh⟩
 cbv
 refine okd hG (by kernel_rfl) ?_
 refine hR _ ?_
 clear hR R
 have nL:NV L:=by rw [hL];exact nvl
 have nM:NV M:=by rw [hM];exact nvm
 have lL:=nL.len
 have lM:=nM.len
 have pL:=List.length_pos_iff.2 nL.ne
 unfold shL at hq
 rw [←hL,←hM,←hg] at hq
 clear hL hM hg hh nvl nvm
 have hfw:1≤G.lu L∧G.lu L<2^15:=by rw [hG];show 1≤((L.length:Nat):Int)∧((L.length:Nat):Int)<2^15;omega
 have hlu:G.lu L=(L.length:Int):=by rw [hG];rfl
 have hkM:kn (nB M)=kn M:=by rw [nB_id nM]
 refine sws_seq hG fun R hR=>?_
 cbv
 cases km:kn (nB M) with
 | false=>
   refine call hG [] (kbr (c:=false) (rknown4_ok M h (by omega) (byt_nv nM)) km) ⟨rfl,rfl,rfl⟩ ?_
   rintro _ _ ⟨rfl,rfl⟩
   cbv
   refine call hG [] (rfill_ok (.ofNat 2) (G.lu L) g hfw) ⟨rfl,rfl,rfl⟩ ?_
   rintro _ _ ⟨Z,z,rfl,rfl,hZ,hz⟩
   cbv
   exact hq _ _ (by rw [hZ,hlu,if_neg (by rw [←hkM,km];decide)];rfl) hz
 | true=>
   refine call hG [] (kbr (c:=true) (rknown4_ok M h (by omega) (byt_nv nM)) km) ⟨rfl,rfl,rfl⟩ ?_
   rintro _ _ ⟨rfl,rfl⟩
   cbv
   rw [if_pos (by rw [←hkM,km])] at hq
   refine hR _ ?_
   clear hR R
   refine sws_seq hG fun R hR=>?_
   cbv
   refine hR _ ?_
   clear hR R
   refine sws_seq hG fun R hR=>?_
   cbv
   refine call hG [] (rbools_ok M h nM.ne (by omega)) ⟨rfl,rfl,rfl⟩ ?_
   rintro _ _ ⟨y,rfl,rfl,hy⟩
   cbv
   refine call hG [] (rbUint_ok y (by rw [hy,boolL_len];omega)) ⟨rfl,rfl,rfl⟩ ?_
   rintro _ _ ⟨a,b,rfl,rfl,ha,hb⟩
   cbv
   rw [hy] at ha hb
   refine hR _ ?_
   clear hR R
   have ecv:G.cv .u64 (G.lu L)=(L.length:Int):=by rw [hG];show fwrap .u64 (L.length:Int)=_;exact fwu (by omega)
   have full:¬ X.val (boolL M)<L.length→shN L.length M=L.length:=fun h=>by unfold shN;rw [if_neg h]
   have fin:∀ (n:Nat) (N:Int),N=(n:Int)→n=shN L.length M→SWs CX TB B ⟨d,fun _=>none⟩ (dropC 6 IR.fi157.code) (stS7 op L M g h N) (post [.cell 6 (some 2)] q):=fun n N hN hn=>
    rsh_tail7 op L M g h n N nL hN (by rw [hn];unfold shN;split<;>omega) q (by rw [hn];exact hq)
   refine sws_seq hG fun R hR=>?_
   cbv
   refine SX.ite hG (fun h2=>?_) (fun h2=>?_)
   ·have h3:X.val (boolL M)<2^64:=of_decide_eq_true (by rw [←hb];exact h2)
    rw [if_pos h3] at ha
    refine SX.ite hG (fun h4=>?_) (fun h4=>?_)
    ·have h5:X.val (boolL M)<L.length:=by
      have h4:G.cmp .lss a (G.cv .u64 (G.lu L))=true:=h4
      rw [ecv,ha,hG] at h4
      have h4:((X.val (boolL M):Nat):Int)<(L.length:Int):=of_decide_eq_true h4
      omega
     have esh:shN L.length M=X.val (boolL M):=by unfold shN;rw [if_pos h5]
     have eN:G.cv .i64 a=((shN L.length M:Nat):Int):=by rw [ha,esh,hG];show fwrap .i64 ((X.val (boolL M):Nat):Int)=_;exact fwi (by omega)
     exact hR _ (sws_le (s':=stS7 op L M g h (G.cv .i64 a)) (by constructor<;>cbv<;>simp) (fin _ _ eN rfl))
    ·have h5:¬ X.val (boolL M)<L.length:=by
      have h4:G.cmp .lss a (G.cv .u64 (G.lu L))=false:=h4
      rw [ecv,ha,hG] at h4
      have h4:¬ ((X.val (boolL M):Nat):Int)<(L.length:Int):=of_decide_eq_false h4
      omega
     exact hR _ (sws_le (s':=stS7 op L M g h (G.lu L)) (by constructor<;>cbv<;>simp) (fin _ _ hlu (full h5).symm))
   ·have h5:¬ X.val (boolL M)<L.length:=by
     have h3:¬ X.val (boolL M)<2^64:=of_decide_eq_false (by rw [←hb];exact h2)
     omega
    exact hR _ (sws_le (s':=stS7 op L M g h (G.lu L)) (by constructor<;>cbv<;>simp) (fin _ _ hlu (full h5).symm))
end Go.Proofs.YtdgbdkfoeaollaaGreatDoor.V
