/- VecStructureMatches: the law (printed by VStM.py). -/
import Derived.Test.YtdgbdkfoeaollaaGreatDoorVSa
import Derived.Test.YtdgbdkfoeaollaaGreatDoorVA
import Derived.Test.YtdgbdkfoeaollaaGreatDoorVW
set_option linter.unusedSimpArgs false
set_option linter.unusedVariables false
set_option cbv.maxSteps 4000000
set_option maxRecDepth 100000
set_option maxHeartbeats 8000000
namespace Go.Proofs.YtdgbdkfoeaollaaGreatDoor.V
open Go Go.AL Go.SX Go.Proofs.YtdgbdkfoeaollaaGreatDoor.V0
def envS3 (m n v:Int):T SV:=((((((((T.nil.set 3 (SV.i .i64 m)).set 4 (.i .i64 n)).set 5 (.i .i64 v)).set 6 (.o 0 0)).set 7 (.o 1 0)).set 8 (.o 2 0)).set 13 (.o 7 0)).set 14 (.o 8 0)).set 15 (.o 9 0)
def objS3 (a b c:List Int) (r s t:Bool):List SX.Obj:=[.x [.u a,.b r],.x [.u b,.b s],.x [.u c,.b t],.dead,.u a,.u b,.u c,.x [.s 4,.b r],.x [.s 5,.b s],.x [.s 6,.b t]]
def stS (a b c:List Int) (r s t:Bool) (m n v:Int):SX.St:=⟨envS3 m n v,objS3 a b c r s t⟩
def stSl (a b c:List Int) (r s t:Bool) (m n v j:Int) (Z0 Z1 Z2 Z3 Z4 Z5 Z6 Z7:List Int) (z0 z1 z2 z3 z4 z5 z6 z7:Bool) (k:Nat):SX.St:=⟨((((envS3 m n v).set 16 (.i .i64 j)).set 17 (.o 10 0)).set 18 (.o 11 0)).set 21 (.n .i64 k),objS3 a b c r s t++[.x [.s 14,.b z0,.s 16,.b z1,.s 18,.b z2,.s 21,.b z3,.s 24,.b z4,.s 26,.b z5,.s 28,.b z6,.s 31,.b z7],.x [.s 15,.b z0,.s 17,.b z1,.s 19,.b z2,.s 23,.b z3,.s 25,.b z4,.s 27,.b z5,.s 29,.b z6,.s 33,.b z7],.dead,.dead,.u Z0,.u Z0,.u Z1,.u Z1,.u Z2,.u Z2,.dead,.u Z3,.dead,.u Z3,.u Z4,.u Z4,.u Z5,.u Z5,.u Z6,.u Z6,.dead,.u Z7,.dead,.u Z7]⟩
theorem stm_end {B:AH} {d:Nat→Prop} (a b c:List Int) (r s t:Bool) (m n v:Int) (ba:Byt a) (bb:Byt b) (bc:Byt c) (hm:I64 m) (hn:I64 n) (hv:I64 v) (la:a.length≤140) (lb:b.length≤140) (lc:c.length≤140) (q:SV→List SX.Obj→Prop) (hq:∀ x,x=true→q (.b x) []):SWs CX TB B ⟨d,fun _=>none⟩ (dropC 4 IR.fi6.code) (stS a b c r s t m n v) (post [.tmp 12] q):=by
 have ka:a.length<2^15:=by omega
 have kb:b.length<2^15:=by omega
 have kc:c.length<2^15:=by omega
 have qa:a.length<2^20:=by omega
 have qb:b.length<2^20:=by omega
 have qc:c.length<2^20:=by omega
 obtain ⟨G,hG⟩:∃ G,G=std CX TB B ⟨d,fun _=>none⟩:=⟨_,rfl⟩
 refine sws_W hG ?_
 cbv
 refine call hG [] (kbr (c:=true) (rsame_ok a a r r qa qa) (by simp)) ⟨rfl,rfl,rfl⟩ ?_
 rintro _ _ ⟨rfl,rfl⟩
 cbv
 refine call hG [] (kbr (c:=true) (rsame_ok b b s s qb qb) (by simp)) ⟨rfl,rfl,rfl⟩ ?_
 rintro _ _ ⟨rfl,rfl⟩
 cbv
 refine call hG [] (kbr (c:=true) (rsame_ok c c t t qc qc) (by simp)) ⟨rfl,rfl,rfl⟩ ?_
 rintro _ _ ⟨rfl,rfl⟩
 cbv
 refine call hG [] (kbr (c:=true) awake_ok rfl) ⟨rfl,rfl,rfl⟩ ?_
 rintro _ _ ⟨rfl,rfl⟩
 cbv
 exact hq _ rfl
theorem stm_loop {B:AH} {d:Nat→Prop} (a b c:List Int) (r s t:Bool) (m n v:Int) (ba:Byt a) (bb:Byt b) (bc:Byt c) (hm:I64 m) (hn:I64 n) (hv:I64 v) (la:a.length≤140) (lb:b.length≤140) (lc:c.length≤140) (q:SV→List SX.Obj→Prop) (hq:∀ x,x=true→q (.b x) []):SWs CX TB B ⟨d,fun _=>none⟩ (dropC 3 IR.fi6.code) (stS a b c r s t m n v) (post [.tmp 12] q):=by
 have ka:a.length<2^15:=by omega
 have kb:b.length<2^15:=by omega
 have kc:c.length<2^15:=by omega
 have qa:a.length<2^20:=by omega
 have qb:b.length<2^20:=by omega
 have qc:c.length<2^20:=by omega
 obtain ⟨G,hG⟩:∃ G,G=std CX TB B ⟨d,fun _=>none⟩:=⟨_,rfl⟩
 have na:=(nB_any a).2
 have nb:=(nB_any b).2
 refine sws_seq hG fun R hR=>?_
 cbv
 refine lp hG (α:=Int) (fun p=>∃ k:Nat,p=(k:Int)∧k≤2) (fun p=>2-p.toNat) (fun s p=>s.put (some 16) (.i .i64 p)) 0 ⟨0,rfl,by omega⟩ (by constructor<;>cbv<;>simp) ?_
 rintro j ⟨k,hj,hk⟩
 cbv
 have hj:j=(k:Int):=hj
 refine SX.ite hG (fun h3=>?_) (fun h3=>?_)
 ·have h3:k<2:=by
   rw [hG,hj] at h3
   have h3:(k:Int)<2:=of_decide_eq_true h3
   omega
  refine call hG [] (kru (fromInt_ok v m s hv)) ⟨rfl,rfl,rfl⟩ ?_
  rintro _ _ ⟨Z0,z0,e0,rfl,rfl,hZ0,hz0,he0⟩
  cbv
  have u0:Z0.length<2^20:=by rw [hZ0];exact len_if fun h=>by rw [intL_len,X.ofI_length];exact okw_n h
  refine call hG [] (kru (rfromInt_ok v m s)) ⟨rfl,rfl,rfl⟩ ?_
  rintro _ _ ⟨Y0,y0,f0,rfl,rfl,hY0,hy0,hf0⟩
  cbv
  obtain rfl:Y0=Z0:=by rw [hY0,hZ0]
  obtain rfl:y0=z0:=by rw [hy0,hz0]
  obtain rfl:f0=e0:=by rw [hf0,he0]
  clear hY0 hy0 hf0 hZ0 hz0 he0
  refine call hG [] (kru (vunk_ok m r)) ⟨rfl,rfl,rfl⟩ ?_
  rintro _ _ ⟨Z1,z1,e1,rfl,rfl,hZ1,hz1,he1⟩
  cbv
  have u1:Z1.length<2^20:=by rw [hZ1];exact len_if fun h=>by rw [List.length_replicate];exact okw_n h
  refine call hG [] (kru (runk_ok m r)) ⟨rfl,rfl,rfl⟩ ?_
  rintro _ _ ⟨Y1,y1,f1,rfl,rfl,hY1,hy1,hf1⟩
  cbv
  obtain rfl:Y1=Z1:=by rw [hY1,hZ1]
  obtain rfl:y1=z1:=by rw [hy1,hz1]
  obtain rfl:f1=e1:=by rw [hf1,he1]
  clear hY1 hy1 hf1 hZ1 hz1 he1
  refine call hG [] (kru (vresize_ok a r m ka ba)) ⟨rfl,rfl,rfl⟩ ?_
  rintro _ _ ⟨Z2,z2,e2,rfl,rfl,hZ2,hz2,he2⟩
  cbv
  have u2:Z2.length<2^20:=by rw [hZ2];exact len_if fun h=>by rw [rsz_len];exact okw_n h
  refine call hG [] (kru (rresize_ok a r m ka ba)) ⟨rfl,rfl,rfl⟩ ?_
  rintro _ _ ⟨Y2,y2,f2,rfl,rfl,hY2,hy2,hf2⟩
  cbv
  obtain rfl:Y2=Z2:=by rw [hY2,hZ2]
  obtain rfl:y2=z2:=by rw [hy2,hz2]
  obtain rfl:f2=e2:=by rw [hf2,he2]
  clear hY2 hy2 hf2 hZ2 hz2 he2
  refine call hG [] (kru (concat3_ok a b c r s t ka kb kc)) ⟨rfl,rfl,rfl⟩ ?_
  rintro _ _ ⟨Z3,z3,e3,rfl,rfl,hZ3,hz3,he3⟩
  cbv
  have u3:Z3.length<2^20:=by rw [hZ3];exact len_if fun h=>of_decide_eq_true h
  refine call hG [] (kru (rconcat3_ok a b c r s t ka kb kc)) ⟨rfl,rfl,rfl⟩ ?_
  rintro _ _ ⟨Y3,y3,f3,rfl,rfl,hY3,hy3,hf3⟩
  cbv
  obtain rfl:Y3=Z3:=by rw [hY3,hZ3]
  obtain rfl:y3=z3:=by rw [hy3,hz3]
  obtain rfl:f3=e3:=by rw [hf3,he3]
  clear hY3 hy3 hf3 hZ3 hz3 he3
  refine call hG [] (kru (repeat2_ok a r m ka ba)) ⟨rfl,rfl,rfl⟩ ?_
  rintro _ _ ⟨Z4,z4,e4,rfl,rfl,hZ4,hz4,he4⟩
  cbv
  have u4:Z4.length<2^20:=by rw [hZ4];exact len_if fun h=>(repL_nv (nB_nv ba) h).len
  refine call hG [] (kru (rrepeat2_ok a r m ka ba hm)) ⟨rfl,rfl,rfl⟩ ?_
  rintro _ _ ⟨Y4,y4,f4,rfl,rfl,hY4,hy4,hf4⟩
  cbv
  obtain rfl:Y4=Z4:=by rw [hY4,hZ4]
  obtain rfl:y4=z4:=by rw [hy4,hz4]
  obtain rfl:f4=e4:=by rw [hf4,he4]
  clear hY4 hy4 hf4 hZ4 hz4 he4
  refine call hG [] (kru (slice_ok a r m n ka ba hm hn)) ⟨rfl,rfl,rfl⟩ ?_
  rintro _ _ ⟨Z5,z5,e5,rfl,rfl,hZ5,hz5,he5⟩
  cbv
  have u5:Z5.length<2^20:=by rw [hZ5];exact len_if fun h=>by rw [slc_len];have:=win_zero (of_decide_eq_true h);omega
  refine call hG [] (kru (rslice_ok a r m n ka ba hm hn)) ⟨rfl,rfl,rfl⟩ ?_
  rintro _ _ ⟨Y5,y5,f5,rfl,rfl,hY5,hy5,hf5⟩
  cbv
  obtain rfl:Y5=Z5:=by rw [hY5,hZ5]
  obtain rfl:y5=z5:=by rw [hy5,hz5]
  obtain rfl:f5=e5:=by rw [hf5,he5]
  clear hY5 hy5 hf5 hZ5 hz5 he5
  refine call hG [] (kru (put_ok a b r s m n ka kb ba bb hm hn)) ⟨rfl,rfl,rfl⟩ ?_
  rintro _ _ ⟨Z6,z6,e6,rfl,rfl,hZ6,hz6,he6⟩
  cbv
  have u6:Z6.length<2^20:=by rw [hZ6];exact len_if fun h=>by rw [putL_len];exact na
  refine call hG [] (kru (rput_ok a b r s m n ka kb ba bb hm hn)) ⟨rfl,rfl,rfl⟩ ?_
  rintro _ _ ⟨Y6,y6,f6,rfl,rfl,hY6,hy6,hf6⟩
  cbv
  obtain rfl:Y6=Z6:=by rw [hY6,hZ6]
  obtain rfl:y6=z6:=by rw [hy6,hz6]
  obtain rfl:f6=e6:=by rw [hf6,he6]
  clear hY6 hy6 hf6 hZ6 hz6 he6
  refine call hG [] (kru (concat1_ok b s kb)) ⟨rfl,rfl,rfl⟩ ?_
  rintro _ _ ⟨Z7,z7,e7,rfl,rfl,hZ7,hz7,he7⟩
  cbv
  have u7:Z7.length<2^20:=by rw [hZ7];exact len_if fun h=>nb
  refine call hG [] (kru (rconcat1_ok b s kb)) ⟨rfl,rfl,rfl⟩ ?_
  rintro _ _ ⟨Y7,y7,f7,rfl,rfl,hY7,hy7,hf7⟩
  cbv
  obtain rfl:Y7=Z7:=by rw [hY7,hZ7]
  obtain rfl:y7=z7:=by rw [hy7,hz7]
  obtain rfl:f7=e7:=by rw [hf7,he7]
  clear hY7 hy7 hf7 hZ7 hz7 he7
  refine ite_f hG (by rw [hG];simp [std,cmpS]) ?_
  refine lp_le hG (s':=stSl a b c r s t m n v j Y0 Y1 Y2 Y3 Y4 Y5 Y6 Y7 y0 y1 y2 y3 y4 y5 y6 y7 0) (by constructor<;>cbv<;>simp) ?_
  refine lp_one hG ?_
  cbv
  refine call hG [] (kbr (c:=true) (rsame_ok Y0 Y0 y0 y0 u0 u0) (by simp)) ⟨rfl,rfl,rfl⟩ ?_
  rintro _ _ ⟨rfl,rfl⟩
  cbv
  refine okd hG (by kernel_rfl) ?_
  refine lp_le hG (s':=stSl a b c r s t m n v j Y0 Y1 Y2 Y3 Y4 Y5 Y6 Y7 y0 y1 y2 y3 y4 y5 y6 y7 1) (by constructor<;>cbv<;>simp) ?_
  refine lp_one hG ?_
  cbv
  refine call hG [] (kbr (c:=true) (rsame_ok Y1 Y1 y1 y1 u1 u1) (by simp)) ⟨rfl,rfl,rfl⟩ ?_
  rintro _ _ ⟨rfl,rfl⟩
  cbv
  refine okd hG (by kernel_rfl) ?_
  refine lp_le hG (s':=stSl a b c r s t m n v j Y0 Y1 Y2 Y3 Y4 Y5 Y6 Y7 y0 y1 y2 y3 y4 y5 y6 y7 2) (by constructor<;>cbv<;>simp) ?_
  refine lp_one hG ?_
  cbv
  refine call hG [] (kbr (c:=true) (rsame_ok Y2 Y2 y2 y2 u2 u2) (by simp)) ⟨rfl,rfl,rfl⟩ ?_
  rintro _ _ ⟨rfl,rfl⟩
  cbv
  refine okd hG (by kernel_rfl) ?_
  refine lp_le hG (s':=stSl a b c r s t m n v j Y0 Y1 Y2 Y3 Y4 Y5 Y6 Y7 y0 y1 y2 y3 y4 y5 y6 y7 3) (by constructor<;>cbv<;>simp) ?_
  refine lp_one hG ?_
  cbv
  refine call hG [] (kbr (c:=true) (rsame_ok Y3 Y3 y3 y3 u3 u3) (by simp)) ⟨rfl,rfl,rfl⟩ ?_
  rintro _ _ ⟨rfl,rfl⟩
  cbv
  refine okd hG (by kernel_rfl) ?_
  refine lp_le hG (s':=stSl a b c r s t m n v j Y0 Y1 Y2 Y3 Y4 Y5 Y6 Y7 y0 y1 y2 y3 y4 y5 y6 y7 4) (by constructor<;>cbv<;>simp) ?_
  refine lp_one hG ?_
  cbv
  refine call hG [] (kbr (c:=true) (rsame_ok Y4 Y4 y4 y4 u4 u4) (by simp)) ⟨rfl,rfl,rfl⟩ ?_
  rintro _ _ ⟨rfl,rfl⟩
  cbv
  refine okd hG (by kernel_rfl) ?_
  refine lp_le hG (s':=stSl a b c r s t m n v j Y0 Y1 Y2 Y3 Y4 Y5 Y6 Y7 y0 y1 y2 y3 y4 y5 y6 y7 5) (by constructor<;>cbv<;>simp) ?_
  refine lp_one hG ?_
  cbv
  refine call hG [] (kbr (c:=true) (rsame_ok Y5 Y5 y5 y5 u5 u5) (by simp)) ⟨rfl,rfl,rfl⟩ ?_
  rintro _ _ ⟨rfl,rfl⟩
  cbv
  refine okd hG (by kernel_rfl) ?_
  refine lp_le hG (s':=stSl a b c r s t m n v j Y0 Y1 Y2 Y3 Y4 Y5 Y6 Y7 y0 y1 y2 y3 y4 y5 y6 y7 6) (by constructor<;>cbv<;>simp) ?_
  refine lp_one hG ?_
  cbv
  refine call hG [] (kbr (c:=true) (rsame_ok Y6 Y6 y6 y6 u6 u6) (by simp)) ⟨rfl,rfl,rfl⟩ ?_
  rintro _ _ ⟨rfl,rfl⟩
  cbv
  refine okd hG (by kernel_rfl) ?_
  refine lp_le hG (s':=stSl a b c r s t m n v j Y0 Y1 Y2 Y3 Y4 Y5 Y6 Y7 y0 y1 y2 y3 y4 y5 y6 y7 7) (by constructor<;>cbv<;>simp) ?_
  refine lp_one hG ?_
  cbv
  refine call hG [] (kbr (c:=true) (rsame_ok Y7 Y7 y7 y7 u7 u7) (by simp)) ⟨rfl,rfl,rfl⟩ ?_
  rintro _ _ ⟨rfl,rfl⟩
  cbv
  refine okd hG (by kernel_rfl) ?_
  refine lp_le hG (s':=stSl a b c r s t m n v j Y0 Y1 Y2 Y3 Y4 Y5 Y6 Y7 y0 y1 y2 y3 y4 y5 y6 y7 8) (by constructor<;>cbv<;>simp) ?_
  refine lp_one hG ?_
  cbv
  refine call hG [14,16,18,21,24,26,28,31] (spoil8_ok Y0 Y1 Y2 Y3 Y4 Y5 Y6 Y7 y0 y1 y2 y3 y4 y5 y6 y7 u0 u1 u2 u3 u4 u5 u6 u7) ⟨rfl,rfl,rfl⟩ ?_
  rintro _ _ ⟨rfl,rfl⟩
  cbv
  have hj:j=(k:Int):=hj
  exact ⟨(G.ar .add .i64 j (Int.ofNat 1)),⟨k+1,inc hG hj (by omega),by omega⟩,mu hj (inc hG hj (by omega)) h3,by constructor<;>cbv<;>simp⟩
 ·exact hR _ (sws_le (s':=stS a b c r s t m n v) (by constructor<;>cbv<;>simp) (stm_end a b c r s t m n v ba bb bc hm hn hv la lb lc q hq))
theorem stm_law (a b c:List Int) (r s t:Bool) (m n v:Int) (ba:Byt a) (bb:Byt b) (bc:Byt c) (hm:I64 m) (hn:I64 n) (hv:I64 v):FvC CX TB (.f 6 [] []) [.a [.u a,.b r],.a [.u b,.b s],.a [.u c,.b t],.i .i64 m,.i .i64 n,.i .i64 v] [] (RB true):=by
 refine fn_sws rfl rfl fun B d q hq0=>?_
 have hq:∀ x,x=true→q (.b x) []:=fun x hx=>hq0 _ _ ⟨x,rfl,rfl,hx⟩
 obtain ⟨G,hG⟩:∃ G,G=std CX TB B ⟨d,fun _=>none⟩:=⟨_,rfl⟩
 refine sws_seq hG fun R hR=>?_
 cbv
 refine hR _ ?_
 clear hR R
 refine sws_seq hG fun R hR=>?_
 cbv
 cases hg:(decide (140<a.length)||decide (140<b.length)||decide (140<c.length)) with
 | true=>
   refine call hG [] (kbr (c:=true) (long3_ok a b c r s t) hg) ⟨rfl,rfl,rfl⟩ ?_
   rintro _ _ ⟨rfl,rfl⟩
   cbv
   refine call hG [] (kbr (c:=true) awake_ok rfl) ⟨rfl,rfl,rfl⟩ ?_
   rintro _ _ ⟨rfl,rfl⟩
   cbv
   exact hq _ rfl
 | false=>
   refine call hG [] (kbr (c:=false) (long3_ok a b c r s t) hg) ⟨rfl,rfl,rfl⟩ ?_
   rintro _ _ ⟨rfl,rfl⟩
   cbv
   have hgl:a.length≤140∧b.length≤140∧c.length≤140:=by
    simp only [Bool.or_eq_false_iff,decide_eq_false_iff_not,Nat.not_lt] at hg
    exact ⟨hg.1.1,hg.1.2,hg.2⟩
   refine hR _ ?_
   clear hR R
   refine sws_seq hG fun R hR=>?_
   cbv
   refine call hG [] (own_ok a r (by omega)) ⟨rfl,rfl,rfl⟩ ?_
   rintro _ _ ⟨X,x,rfl,rfl,hX,hx⟩
   cbv
   refine call hG [] (own_ok b s (by omega)) ⟨rfl,rfl,rfl⟩ ?_
   rintro _ _ ⟨Y,y,rfl,rfl,hY,hy⟩
   cbv
   refine call hG [] (own_ok c t (by omega)) ⟨rfl,rfl,rfl⟩ ?_
   rintro _ _ ⟨Z,z,rfl,rfl,hZ,hz⟩
   cbv
   refine okd hG (by kernel_rfl) ?_
   subst hX hx hY hy hZ hz
   exact hR _ (sws_le (s':=stS X Y Z x y z m n v) (by constructor<;>cbv<;>simp) (stm_loop X Y Z x y z m n v ba bb bc hm hn hv hgl.1 hgl.2.1 hgl.2.2 q hq))
end Go.Proofs.YtdgbdkfoeaollaaGreatDoor.V
