/- VecIntegers: the law (printed by VInt.py). -/
import Derived.Test.YtdgbdkfoeaollaaGreatDoorVIntC
import Derived.Test.YtdgbdkfoeaollaaGreatDoorVA
set_option linter.unusedSimpArgs false
set_option linter.unusedVariables false
set_option cbv.maxSteps 4000000
set_option maxRecDepth 100000
set_option maxHeartbeats 8000000
namespace Go.Proofs.YtdgbdkfoeaollaaGreatDoor.V
open Go Go.AL Go.SX
theorem w31 {B':AH} {D:Bs} {G:Sg} (hG:G=std CX TB B' D) {w:Int} (h:0≤w∧w≤255):∃ n:Nat,G.ar .add .i64 (Int.ofNat 1) (G.cv .i64 (G.ar .rem .u8 w 31))=(n:Int)∧1≤n∧n≤31:=by
 have e:w.tmod 31=w % 31:=Int.tmod_eq_emod_of_nonneg h.1
 have e1:G.cv .i64 (G.ar .rem .u8 w 31)=w % 31:=by rw [hG];show fwrap .i64 (w.tmod 31)=_;rw [e];exact fwi (by omega)
 refine ⟨(1+w % 31).toNat,?_,by omega,by omega⟩
 rw [e1,addi hG (by show _≤(1:Int)+w % 31∧(1:Int)+w % 31<_;omega)]
 show (1:Int)+w % 31=_
 omega
theorem int_mid {B':AH} {d:Nat→Prop} (a b:List Bool) (A B:List Int) (s t g:Bool) (T6:T64 a b) (la:a.length≤31) (lb:b.length≤31) (eA:A=intL a) (eB:B=intL b) (eg:g=(s&&t)) (q:SV→List SX.Obj→Prop) (hq:∀ x,x=true→q (.b x) []):SWs CX TB B' ⟨d,fun _=>none⟩ (dropC 5 IR.fi7.code) ⟨((((((T.nil.set 4 (SV.b s)).set 13 (.o 1 0)).set 15 (.o 3 0)).set 17 (.b g)).set 14 (.n .i64 0)).set 16 (.n .i64 0)),[.u A,.x [.s 0,.b s],.u B,.x [.s 2,.b t]]⟩ (post [.tmp 12] q):=by
 have lA:A.length=a.length:=by rw [eA,intL_len]
 have lB:B.length=b.length:=by rw [eB,intL_len]
 obtain ⟨G,hG⟩:∃ G,G=std CX TB B' ⟨d,fun _=>none⟩:=⟨_,rfl⟩
 refine sws_seq hG fun R hR=>?_
 cbv
 refine call hG [] (withSign_ok A s g (by omega)) ⟨rfl,rfl,rfl⟩ ?_
 rintro _ _ ⟨X,x,rfl,rfl,hX,hx⟩
 cbv
 refine call hG [] (withSign_ok B t g (by omega)) ⟨rfl,rfl,rfl⟩ ?_
 rintro _ _ ⟨Y,y,rfl,rfl,hY,hy⟩
 cbv
 refine okd hG (by kernel_rfl) ?_
 have eX:X=intL a:=by rw [hX,eA];exact nB_id T6.nvA
 have eY:Y=intL b:=by rw [hY,eB];exact nB_id T6.nvB
 refine hR _ ?_
 clear hR R
 refine sws_seq hG fun R hR=>?_
 cbv
 refine call hG [] (vint_J a eX x T6.a1 la) ⟨rfl,rfl,rfl⟩ ?_
 rintro _ _ ⟨i,rfl,rfl,hi⟩
 cbv
 refine hR _ ?_
 clear hR R
 refine sws_seq hG fun R hR=>?_
 cbv
 refine call hG [] (vint_J b eY y T6.b1 lb) ⟨rfl,rfl,rfl⟩ ?_
 rintro _ _ ⟨k,rfl,rfl,hk⟩
 cbv
 refine hR _ ?_
 clear hR R
 refine sws_seq hG fun R hR=>?_
 cbv
 refine hR _ ?_
 clear hR R
 refine sws_seq hG fun R hR=>?_
 cbv
 have ew:G.mx (G.lu A) (G.lu B)=((wd a b:Nat):Int):=by
  rw [hG];show AL.mx (A.length:Int) (B.length:Int)=_
  rw [lA,lB];unfold AL.mx wd
  have:=Nat.le_total a.length b.length
  split<;>simp only [Nat.max_def]<;>split<;>omega
 exact hR _ (sws_le (s':=stI A B s t g i k (G.mx (G.lu A) (G.lu B))) (by constructor<;>cbv<;>simp) (int_ar (a:=a) (b:=b) ⟨T6,la,lb,eA,eB,eg,by rw [hi,hx],by rw [hk,hy],ew⟩ q hq))
theorem int_law (m n w v:Int) (s t:Bool) (hm:-(2:Int)^31≤m∧m<(2:Int)^31) (hn:-(2:Int)^31≤n∧n<(2:Int)^31) (hw:0≤w∧w≤255) (hv:0≤v∧v≤255):FvC CX TB (.f 7 [] []) [.i .i32 m,.i .i32 n,.i .u8 w,.i .u8 v,.b s,.b t] [] (RB true):=by
 refine fn_sws rfl rfl fun B' d q hq0=>?_
 have hq:∀ x,x=true→q (.b x) []:=fun x hx=>hq0 _ _ ⟨x,rfl,rfl,hx⟩
 obtain ⟨G,hG⟩:∃ G,G=std CX TB B' ⟨d,fun _=>none⟩:=⟨_,rfl⟩
 refine sws_seq hG fun R hR=>?_
 cbv
 refine hR _ ?_
 clear hR R
 refine sws_seq hG fun R hR=>?_
 cbv
 refine call hG [] (kbr (c:=true) awake_ok rfl) ⟨rfl,rfl,rfl⟩ ?_
 rintro _ _ ⟨rfl,rfl⟩
 cbv
 refine hR _ ?_
 clear hR R
 refine sws_seq hG fun R hR=>?_
 cbv
 obtain ⟨lA,eA,pA,rA⟩:=w31 hG hw
 have iA:I64 (G.cv .i64 m):=by { have e:G.cv .i64 m=m:=by { rw [hG];exact fwi (by omega) };rw [e];unfold I64;omega }
 have zA:G.ne0 31:=by { rw [hG];show (31:Int)≠0;decide }
 refine ⟨zA,?_⟩
 refine call hG [] (kre (fromInt_ok (G.cv .i64 m) (G.ar .add .i64 (Int.ofNat 1) (G.cv .i64 (G.ar .rem .u8 w 31))) s iA) (by rw [eA];unfold okW;rw [decide_eq_true (by omega),decide_eq_true (by omega)];rfl)) ⟨rfl,rfl,rfl⟩ ?_
 rintro _ _ ⟨A,y,rfl,rfl,hA,hy⟩
 cbv
 rw [eA,Int.toNat_natCast] at hA
 subst hy
 refine hR _ ?_
 clear hR R
 refine sws_seq hG fun R hR=>?_
 cbv
 obtain ⟨lB,eB,pB,rB⟩:=w31 hG hv
 have iB:I64 (G.cv .i64 n):=by { have e:G.cv .i64 n=n:=by { rw [hG];exact fwi (by omega) };rw [e];unfold I64;omega }
 have zB:G.ne0 31:=by { rw [hG];show (31:Int)≠0;decide }
 refine ⟨zB,?_⟩
 refine call hG [] (kre (fromInt_ok (G.cv .i64 n) (G.ar .add .i64 (Int.ofNat 1) (G.cv .i64 (G.ar .rem .u8 v 31))) t iB) (by rw [eB];unfold okW;rw [decide_eq_true (by omega),decide_eq_true (by omega)];rfl)) ⟨rfl,rfl,rfl⟩ ?_
 rintro _ _ ⟨B,z,rfl,rfl,hB,hz⟩
 cbv
 rw [eB,Int.toNat_natCast] at hB
 subst hz
 refine hR _ ?_
 clear hR R
 refine sws_seq hG fun R hR=>?_
 cbv
 have fin:∀ g,g=(y&&z)→SWs CX TB B' ⟨d,fun _=>none⟩ (dropC 5 IR.fi7.code) ⟨((((((T.nil.set 4 (SV.b y)).set 13 (.o 1 0)).set 15 (.o 3 0)).set 17 (.b g)).set 14 (.n .i64 0)).set 16 (.n .i64 0)),[.u A,.x [.s 0,.b y],.u B,.x [.s 2,.b z]]⟩ (post [.tmp 12] q):=fun g hg=>
  int_mid _ _ A B y z g ⟨⟨by rw [X.ofI_length];exact pA,by rw [X.ofI_length];omega,by rw [X.ofI_length];exact pB,by rw [X.ofI_length];omega⟩,by rw [X.ofI_length];omega,by rw [X.ofI_length];omega⟩ (by rw [X.ofI_length];exact rA) (by rw [X.ofI_length];exact rB) hA hB hg q hq
 refine SX.ite hG (fun c1=>?_) (fun c1=>?_)
 ·exact hR _ (sws_le (by constructor<;>cbv<;>simp) (fin z (by rw [c1];rfl)))
 ·exact hR _ (sws_le (by constructor<;>cbv<;>simp) (fin false (by rw [c1];rfl)))
end Go.Proofs.YtdgbdkfoeaollaaGreatDoor.V
