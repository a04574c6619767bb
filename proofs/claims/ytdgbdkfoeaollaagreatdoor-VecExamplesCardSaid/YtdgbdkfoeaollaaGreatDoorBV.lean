/- Contracts of the two-state vectors' functions (written for another seat, turned to this one by program). -/
import Derived.Test.YtdgbdkfoeaollaaGreatDoorIR
import Derived.Test.YtdgbdkfoeaollaaGreatDoorALe
set_option linter.unusedSimpArgs false
set_option linter.unusedVariables false
namespace Go.Proofs.YtdgbdkfoeaollaaGreatDoor.X
section
open Go Go.AL
def bx (l:List Bool) (i:Nat):Bool:=l.getD i false
theorem bx_lt {l:List Bool} {n:Nat} (h:n<l.length):l[n]?=some (bx l n):=by simp [bx,List.getD_eq_getElem?_getD,h]
theorem bx_ge {l:List Bool} {n:Nat} (h:¬ n<l.length):bx l n=false:=by simp [bx,List.getD_eq_getElem?_getD,List.getElem?_eq_none (Nat.le_of_not_lt h)]
variable {ext:Nat→Option (List Value→AH→Option (Value×AH))}
abbrev Cx (ext:Nat→Option (List Value→AH→Option (Value×AH))):Ctx:=⟨IR.ft,ext⟩
def Ext0 (ext:Nat→Option (List Value→AH→Option (Value×AH))):Prop:=∀ f,(f≠24∧f≠11)→ext f=none
theorem at_any (hx:Ext0 ext) {H:AH} {v:Value} {l:List Bool} {n:Nat} (hv:IsB H v l):Run (Cx ext) 169 [v,.int .i64 n] H fun r H'=>H'=H∧r=.bool (bx l n):=by
 refine Run.intro (fi:=IR.fi169) (hx 169 (by decide)) (by kernel_rfl) ?_
 unfold IR.fi169
 simp only [envOf_cons,envOf_nil]
 refine Cw.seq (Cw.region ?_)
 (refine Ow.popM rfl ?_;simp only [S0,Nat.reduceEqDiff])
 refine Ow.nilM ⟨nofun,?_⟩
 refine Cw.seq (Cw.region ?_)
 by_cases hlt:n<l.length
 ·obtain ⟨ad,cap,bk,rfl,h1,h2,h3⟩:=hv.at (bx_lt hlt)
  iterate 8 (refine Ow.popM rfl ?_;simp only [S0,Nat.reduceEqDiff,lt_true hlt,ix_ok hlt])
  (refine Ow.hopM rfl rfl ?_;simp only [S0,Nat.reduceEqDiff,h2,h3])
  iterate 2 (refine Ow.popM rfl ?_;simp only [S0,Nat.reduceEqDiff])
  refine Ow.nilM ⟨nofun,?_⟩
  refine Cw.ret ?_
  simp only [FnPost,resOf,tupled,S0,Nat.reduceEqDiff,and_self]
 ·obtain ⟨a,cap,rfl⟩:=hv.shape
  iterate 8 (refine Ow.popM rfl ?_;simp only [S0,Nat.reduceEqDiff,lt_false hlt])
  (refine Ow.hopM rfl rfl ?_;simp only [S0,Nat.reduceEqDiff])
  iterate 2 (refine Ow.popM rfl ?_;simp only [S0,Nat.reduceEqDiff])
  refine Ow.nilM ⟨nofun,?_⟩
  refine Cw.ret ?_
  simp only [FnPost,resOf,tupled,S0,Nat.reduceEqDiff,bx_ge hlt,and_self]
theorem adder_any (hx:Ext0 ext) {H:AH} {c:Bool}:Run (Cx ext) 168 [.bool c] H fun r H'=>H'=H.new ⟨[.bool c],0⟩∧r=.func (.func 196) ⟨[]⟩ ⟨[.pointer (some ⟨H.n,0,none⟩)]⟩:=by
 refine Run.intro (fi:=IR.fi168) (hx 168 (by decide)) (by kernel_rfl) ?_
 unfold IR.fi168
 simp only [envOf_cons,envOf_nil]
 refine Cw.seq (Cw.region ?_)
 (refine Ow.hopM rfl rfl ?_;simp only [S0,Nat.reduceEqDiff,junk,AL.cellsOf])
 (refine Ow.popM rfl ?_;simp only [S0,Nat.reduceEqDiff])
 refine Ow.nilM ⟨nofun,?_⟩
 refine Cw.seq (Cw.region ?_)
 iterate 2 (refine Ow.popM rfl ?_;simp only [S0,Nat.reduceEqDiff])
 refine Ow.nilM ⟨nofun,?_⟩
 refine Cw.ret ?_
 simp only [FnPost,resOf,tupled,S0,Nat.reduceEqDiff,and_self]
theorem step_any (hx:Ext0 ext) {H:AH} {id:Nat} {a b c:Bool} (hid:id<H.n) (hb:H.t.get id=some ⟨[.bool c],0⟩) :
  Run (Cx ext) 196 [.bool a,.bool b,.pointer (some ⟨id,0,none⟩)] H fun r H'=>H'.n=H.n∧H'.t=H.t.set id ⟨[.bool (a&&b||(c&&(a||b)))],0⟩∧H'.wl=min H.wl id∧r=.bool (((a != b) != c)):=by
 refine Run.intro (fi:=IR.fi196) (hx 196 (by decide)) (by kernel_rfl) ?_
 unfold IR.fi196
 simp only [envOf_cons,envOf_nil]
 refine Cw.seq (Cw.region ?_)
 (refine Ow.popM rfl ?_;simp only [S0,Nat.reduceEqDiff])
 refine Ow.nilM ⟨nofun,?_⟩
 refine Cw.seq (Cw.region ?_)
 iterate 3 (refine Ow.popM rfl ?_;simp only [S0,Nat.reduceEqDiff])
 (refine Ow.hopM rfl rfl ?_;simp only [S0,Nat.reduceEqDiff,hb,List.getElem?_cons_zero])
 iterate 2 (refine Ow.popM rfl ?_;simp only [S0,Nat.reduceEqDiff])
 refine Ow.nilM ⟨nofun,?_⟩
 refine Cw.seq (Cw.region ?_)
 have fin:∀ (E:Env) (x:Bool),E.get 2=some (.pointer (some ⟨id,0,none⟩))→E.get 24=some (.bool x)→E.get 6=some (.bool (((a != b) != c)))→x=(a&&b||(c&&(a||b))) →
   Ow (Cx ext) [⟨none,none,.store 1 (.tmp 2) (.tmp 24)⟩] E H fun E' H' fl'=>Cw (Cx ext) (.seq (.region false [⟨some 25,none,.mov (.tmp 6)⟩,⟨some 5,none,.mov (.tmp 25)⟩] []) .ret) E' H' (FnPost [.tmp 5] fun r H'=>H'.n=H.n∧H'.t=H.t.set id ⟨[.bool (a&&b||(c&&(a||b)))],0⟩∧H'.wl=min H.wl id∧r=.bool (((a != b) != c))):=by
  intro E x h2 h24 h6 hxe
  refine Ow.store1 (b:=true) (ad:=⟨id,0,none⟩) rfl h2 h24 rfl rfl hb (by simp) (by simp) ?_ ?_
  ·have:min H.n id=id:=Nat.min_eq_right (Nat.le_of_lt hid)
   show Nat.blt (min H.n id) H.n=true
   rw [this];exact Nat.ble_eq_true_of_le hid
  ·intro wl hwl
   refine Ow.nil ?_
   refine Cw.seq (Cw.region ?_)
   iterate 2 (refine Ow.popM rfl ?_;simp only [S0,Nat.reduceEqDiff,h6])
   refine Ow.nilM ⟨nofun,?_⟩
   refine Cw.ret ?_
   simp only [FnPost,resOf,tupled,S0,Nat.reduceEqDiff]
   refine ⟨?_,?_,?_,?_⟩
   ·first | trivial | rfl
   ·rw [←hxe];rfl
   ·rw [hwl]
    show min H.wl (min H.n id)=min H.wl id
    have:min H.n id=id:=Nat.min_eq_right (Nat.le_of_lt hid)
    rw [this]
   ·first | trivial | rfl
 cases a<;>cases b<;>cases c
 all_goals
  repeat (first | (refine Ow.popM rfl ?_;simp only [S0,Nat.reduceEqDiff]) | (refine Ow.hopM rfl rfl ?_;simp only [S0,Nat.reduceEqDiff,hb,List.getElem?_cons_zero]))
  refine (fin _ _ ?_ ?_ ?_ rfl).mono (fun E' H' fl h=>⟨nofun,h⟩)
  ·simp only [S0,Nat.reduceEqDiff]
  ·simp only [S0,Nat.reduceEqDiff];rfl
  ·simp only [S0,Nat.reduceEqDiff]
end
section
open Go Go.AL
def val:List Bool→Nat
 | []=>0
 | b::r=>b.toNat+2*val r
def ofN (n x:Nat):List Bool:=(List.range n).map fun i=>x.testBit i
theorem ofN_length (n x:Nat):(ofN n x).length=n:=by simp [ofN]
theorem ofN_get {n x i:Nat} (h:i<n):(ofN n x)[i]?=some (x.testBit i):=by simp [ofN,h]
theorem val_bit:∀ (l:List Bool) (i:Nat),(val l).testBit i=bx l i
 | [],i=>by simp [val,bx]
 | b::r,0=>by
   unfold val bx
   simp [Nat.testBit_zero]
   cases b<;>simp<;>omega
 | b::r,i+1=>by
   have h:=val_bit r i
   unfold val
   have e:(b.toNat+2*val r) / 2=val r:=by cases b<;>simp<;>omega
   rw [Nat.testBit_succ,e,h]
   simp [bx]
theorem val_lt:∀ (l:List Bool),val l<2^l.length
 | []=>by simp [val]
 | b::r=>by
   have h:=val_lt r
   unfold val
   simp only [List.length_cons,Nat.pow_succ]
   cases b<;>simp<;>omega
theorem ext_bits {l m:List Bool} (hl:l.length=m.length) (h:∀ i,i<l.length→bx l i=bx m i):l=m:=by
 apply List.ext_getElem?
 intro i
 by_cases hi:i<l.length
 ·rw [bx_lt hi,bx_lt (by omega),h i hi]
 ·rw [List.getElem?_eq_none (by omega),List.getElem?_eq_none (by omega)]
theorem ofN_val (l:List Bool):ofN l.length (val l)=l:=by
 refine ext_bits (ofN_length _ _) (fun i hi=>?_)
 rw [ofN_length] at hi
 have:=ofN_get (x:=val l) hi
 simp only [bx,List.getD_eq_getElem?_getD,this,Option.getD_some]
 rw [val_bit];simp [bx]
theorem bx_ofN {n x i:Nat}:bx (ofN n x) i=(decide (i<n)&&x.testBit i):=by
 by_cases h:i<n
 ·simp [bx,List.getD_eq_getElem?_getD,ofN_get h,h]
 ·simp [bx,List.getD_eq_getElem?_getD,ofN,h]
theorem val_ofN (n x:Nat):val (ofN n x)=x % 2^n:=by
 apply Nat.eq_of_testBit_eq
 intro i
 rw [val_bit,bx_ofN,Nat.testBit_mod_two_pow]
theorem ofN_mod (n x:Nat):ofN n (x % 2^n)=ofN n x:=by
 refine ext_bits (by simp [ofN_length]) (fun i hi=>?_)
 rw [ofN_length] at hi
 rw [bx_ofN,bx_ofN,Nat.testBit_mod_two_pow]
 simp [hi]
theorem ofN_eq {n x y:Nat} (h:x % 2^n=y % 2^n):ofN n x=ofN n y:=by rw [←ofN_mod n x,h,ofN_mod]
def outk (n S k:Nat):List Bool:=(List.range n).map fun i=>decide (i<k)&&S.testBit i
theorem outk_length (n S k:Nat):(outk n S k).length=n:=by simp [outk]
theorem outk_zero (n S:Nat):outk n S 0=List.replicate n false:=by
 apply List.ext_getElem?
 intro i
 by_cases h:i<n<;>simp [outk,h,List.getElem?_replicate]
theorem outk_full (n S:Nat):outk n S n=ofN n S:=by
 refine List.map_congr_left fun i hi=>?_
 simp [List.mem_range.1 hi]
theorem outk_set {n S k:Nat} (h:k<n):(outk n S k).set k (S.testBit k)=outk n S (k+1):=by
 apply List.ext_getElem?
 intro i
 rw [List.getElem?_set]
 by_cases hik:k=i
 ·subst hik
  simp [outk,h]
 ·rw [if_neg hik]
  by_cases hi:i<n
  ·simp only [outk,List.getElem?_map,List.getElem?_range hi,Option.map_some]
   have:(i<k+1)↔(i<k):=by omega
   simp [this]
  ·simp [outk,hi]
def cy (X Y:Nat) (c:Bool) (k:Nat):Bool:=decide (2^k≤X % 2^k+Y % 2^k+c.toNat)
theorem cy_zero (X Y:Nat) (c:Bool):cy X Y c 0=c:=by cases c<;>simp [cy,Nat.mod_one]
theorem full_add (X Y:Nat) (c:Bool) (k:Nat):(X+Y+c.toNat).testBit k=((X.testBit k != Y.testBit k) != cy X Y c k) ∧
  cy X Y c (k+1)=(X.testBit k&&Y.testBit k||(cy X Y c k&&(X.testBit k||Y.testBit k))):=by
 have hx:X % 2^(k+1)=X % 2^k+2^k*(X.testBit k).toNat:=by
  rw [Nat.mod_pow_succ]
  congr 1
  rw [Nat.testBit_eq_decide_div_mod_eq]
  rcases Nat.mod_two_eq_zero_or_one (X / 2^k) with h | h<;>rw [h]<;>simp
 have hy:Y % 2^(k+1)=Y % 2^k+2^k*(Y.testBit k).toNat:=by
  rw [Nat.mod_pow_succ]
  congr 1
  rw [Nat.testBit_eq_decide_div_mod_eq]
  rcases Nat.mod_two_eq_zero_or_one (Y / 2^k) with h | h<;>rw [h]<;>simp
 have lx:=Nat.mod_lt X (Nat.two_pow_pos k)
 have ly:=Nat.mod_lt Y (Nat.two_pow_pos k)
 have hs:(X+Y+c.toNat).testBit k=((X % 2^(k+1)+Y % 2^(k+1)+c.toNat).testBit k):=by
  have h1:=Nat.testBit_mod_two_pow (X+Y+c.toNat) (k+1) k
  have h2:=Nat.testBit_mod_two_pow (X % 2^(k+1)+Y % 2^(k+1)+c.toNat) (k+1) k
  simp only [Nat.lt_succ_self,decide_true,Bool.true_and] at h1 h2
  rw [←h1,←h2]
  congr 1
  simp [Nat.add_mod]
 rw [hs,hx,hy]
 unfold cy
 rw [hx,hy,Nat.pow_succ]
 generalize hxm:X % 2^k=x at *
 generalize hym:Y % 2^k=y at *
 generalize hP:2^k=P at *
 have hdiv:∀ z q,z<P→(z+P*q).testBit k=decide (q % 2=1):=by
  intro z q hz
  rw [Nat.testBit_eq_decide_div_mod_eq,hP]
  have:(z+P*q) / P=q:=by
   rw [Nat.add_mul_div_left _ _ (by omega),Nat.div_eq_of_lt hz,Nat.zero_add]
  rw [this]
 have hc:c.toNat≤1:=by cases c<;>simp
 by_cases hcar:P≤x+y+c.toNat
 ·have e:∀ m:Nat,x+P*(X.testBit k).toNat+(y+P*(Y.testBit k).toNat)+c.toNat=(x+y+c.toNat-P)+P*(1+(X.testBit k).toNat+(Y.testBit k).toNat):=by
   intro m
   rw [Nat.mul_add,Nat.mul_add,Nat.mul_one]
   omega
  rw [e 0,hdiv _ _ (by omega)]
  cases X.testBit k<;>cases Y.testBit k<;>simp [hcar]<;>omega
 ·have e:x+P*(X.testBit k).toNat+(y+P*(Y.testBit k).toNat)+c.toNat=(x+y+c.toNat)+P*((X.testBit k).toNat+(Y.testBit k).toNat):=by
   rw [Nat.mul_add]
   omega
  rw [e,hdiv _ _ (by omega)]
  cases X.testBit k<;>cases Y.testBit k<;>simp [hcar]<;>omega
end
section
open Go Go.AL
variable {ext:Nat→Option (List Value→AH→Option (Value×AH))}
structure AddH (H:AH) (H1:AH) (n S k io ic:Nat) (c:Bool):Prop where
 ext:AL.Ext H H1
 hio:H.n≤io∧io<H1.n
 hic:H.n≤ic∧ic<H1.n
 ne:io≠ic
 out:H1.t.get io=some ⟨(outk n S k).map .bool,0⟩
 car:H1.t.get ic=some ⟨[.bool c],0⟩
theorem add_raw (hx:Ext0 ext) {H:AH} {va vb:Value} {la lb:List Bool} {Y:Nat} (hY:∀ k,k<la.length→Y.testBit k=bx lb k) (ha:IsB H va la) (hb:IsB H vb lb) (hl:la.length<2^36) :
  Run (Cx ext) 114 [va,vb] H fun r H'=>AL.Ext H H'∧∃ id,H.n≤id∧IsM H' r (ofN la.length (val la+Y+false.toNat)) id:=by
 refine Run.intro (fi:=IR.fi114) (hx 114 (by decide)) (by kernel_rfl) ?_
 unfold IR.fi114
 simp only [envOf_cons,envOf_nil]
 refine Cw.seq (Cw.region ?_)
 (refine Ow.popM rfl ?_;simp only [S0,Nat.reduceEqDiff])
 refine Ow.nilM ⟨nofun,?_⟩
 refine Cw.seq (Cw.region ?_)
 refine Ow.callE (k:=168) (fs:=[]) (cs:=[]) (vs:=[.bool false]) rfl rfl rfl ((adder_any hx).mono (Q':=fun r H'=>AL.Ext { H with wl:=H.n } H'∧(H'.n=H.n+1∧H'.t=H.t.set H.n ⟨[.bool false],0⟩∧r=.func (.func 196) ⟨[]⟩ ⟨[.pointer (some ⟨H.n,0,none⟩)]⟩)) ?_) ?_
 ·rintro r H' ⟨rfl,rfl⟩
  exact ⟨(AL.Ext.refl _).new _,rfl,rfl,rfl⟩
 rintro v H1 w hx1 ⟨hn1,ht1,rfl⟩
 obtain ⟨aa,acap,ea⟩:=ha.shape
 subst ea
 iterate 2 (refine Ow.popM rfl ?_;simp only [S0,Nat.reduceEqDiff])
 refine Ow.makeB (k:=.i64) (n:=la.length) rfl (by simp only [S0,Nat.reduceEqDiff]) (by omega) ?_
 iterate 2 (refine Ow.popM rfl ?_;simp only [S0,Nat.reduceEqDiff])
 refine Ow.nilM ⟨fun _=>by rfl,?_⟩
 refine Cw.seq (Cw.seq (Cw.region ?_))
 iterate 3 (refine Ow.popM rfl ?_;simp only [S0,Nat.reduceEqDiff])
 refine Ow.nilM ⟨nofun,?_⟩
 have hn1':H1.n=H.n+1:=hn1
 have hI:∀ k,k<la.length→(val la+Y+false.toNat).testBit k=((bx la k != bx lb k) != cy (val la) Y false k)∧cy (val la) Y false (k+1)=(bx la k&&bx lb k||(cy (val la) Y false k&&(bx la k||bx lb k))):=by
  intro k hk
  have:=full_add (val la) Y false k
  rw [hY k hk,val_bit la] at this
  exact this
 generalize hS:val la+Y+false.toNat=S at *
 refine Cw.block (Cw.loopI la.length (fun k E H2=>(E.get 0=some (.slice aa la.length acap)∧E.get 1=some vb∧E.get 5=some (.func (.func 196) ⟨[]⟩ ⟨[.pointer (some ⟨H.n,0,none⟩)]⟩)∧E.get 6=some (.slice (some ⟨H.n+1,0,none⟩) la.length la.length)∧E.get 13=some (.int .i64 (la.length:Int))∧E.get 14=some (.int .i64 (k:Int)))∧AddH H H2 la.length S k (H.n+1) H.n (cy (val la) Y false k)) ⟨?_,?_⟩ ?_)
 ·simp only [S0,Nat.reduceEqDiff,hn1',and_self];exact ⟨trivial,trivial,trivial,trivial,trivial,rfl⟩
 ·have hxn:=hx1.new (⟨(List.replicate la.length false).map .bool,0⟩:Blk)
  refine ⟨hxn,⟨by omega,?_⟩,⟨Nat.le_refl _,?_⟩,by omega,?_,?_⟩
  ·show H.n+1<H1.n+1;omega
  ·show H.n<H1.n+1;omega
  ·show (H1.t.set H1.n _).get (H.n+1)=_
   rw [hn1',T.get_set_self,outk_zero]
  ·show (H1.t.set H1.n _).get H.n=_
   rw [T.get_set_ne _ _ (by omega),ht1,T.get_set_self,cy_zero]
 clear hx1 hn1 hn1' ht1
 rintro k E H1 hk ⟨⟨e0,e1,e5,e6,e13,e14⟩,hh⟩
 refine Cw.seq (Cw.region ?_)
 by_cases hlt:k<la.length
 ·obtain ⟨x1,x2,x3,x4,x5,x6⟩:=id hh
  have ha1:IsB H1 (.slice aa la.length acap) la:=ha.ext x1
  have hb1:IsB H1 vb lb:=hb.ext x1
  obtain ⟨ad,cap,bk,ee,h1,h2,h3⟩:=ha1.at (bx_lt hlt)
  simp only [Value.slice.injEq] at ee
  obtain ⟨rfl,-,rfl⟩:=ee
  (refine Ow.popM rfl ?_;simp only [S0,Nat.reduceEqDiff,e14,e13,lt_true hlt])
  refine Ow.nilM ⟨nofun,?_⟩
  refine Cw.seq (Cw.cond (t:=true) (by simp only [S0,Nat.reduceEqDiff]) ?_)
  refine Cw.skip ?_
  refine Cw.seq (Cw.block (Cw.seq (Cw.region ?_)))
  iterate 2 (refine Ow.popM rfl ?_;simp only [S0,Nat.reduceEqDiff,e14])
  refine Ow.nilM ⟨nofun,?_⟩
  refine Cw.region ?_
  iterate 6 (refine Ow.popM rfl ?_;simp only [S0,Nat.reduceEqDiff,e0,e5,e6,ix_ok hlt])
  (refine Ow.hopM rfl rfl ?_;simp only [S0,Nat.reduceEqDiff,h2,h3])
  iterate 2 (refine Ow.popM rfl ?_;simp only [S0,Nat.reduceEqDiff,e1])
  refine Ow.callE (k:=169) (fs:=[]) (cs:=[]) (vs:=[vb,.int .i64 k]) (R:=fun r H'=>H'={ H1 with wl:=H1.n }∧r=.bool (bx lb k)) rfl rfl (by simp only [S0,Nat.reduceEqDiff]) ((at_any hx (hb1.wl)).mono fun r H' hr=>⟨by rw [hr.1];exact AL.Ext.refl _,hr⟩) ?_
  rintro v H2 wl hx2 ⟨rfl,rfl⟩
  have hcar:∀ x,({ H1 with wl:=x }:AH).t.get H.n=some ⟨[.bool (cy (val la) Y false k)],0⟩:=fun _=>x6
  refine Ow.call (k:=196) (fs:=[]) (cs:=[.pointer (some ⟨H.n,0,none⟩)]) (vs:=[.bool (bx la k),.bool (bx lb k)]) rfl (by simp only [S0,Nat.reduceEqDiff,e5]) (by simp only [S0,Nat.reduceEqDiff]) (step_any hx (id:=H.n) (c:=cy (val la) Y false k) (H:={ H1 with wl:=H1.n }) x3.2 x6) ?_
  rintro v H3 ⟨g1,g2,g3,rfl⟩
  have hfa:=hI k hlt
  have g3':H3.wl=H.n:=by rw [g3];exact Nat.min_eq_right (Nat.le_of_lt x3.2)
  refine ⟨true,by rw [g3'];exact Nat.ble_eq_true_of_le x3.2,?_⟩
  have g1':H3.n=H1.n:=g1
  have g2':H3.t=H1.t.set H.n ⟨[.bool (cy (val la) Y false (k+1))],0⟩:=by rw [hfa.2];exact g2
  rw [←hfa.1]
  (refine Ow.popM rfl ?_;simp only [S0,Nat.reduceEqDiff,ix_ok hlt])
  have hout:H3.t.get (H.n+1)=some ⟨(outk la.length S k).map .bool,0⟩:=by rw [g2',T.get_set_ne _ _ x4];exact x5
  refine Ow.store1 (b:=true) (ad:=⟨H.n+1,k,none⟩) (v:=.bool (S.testBit k)) rfl (by simp only [S0,Nat.reduceEqDiff]) (by simp only [S0,Nat.reduceEqDiff]) rfl rfl hout (by simp) (by simp [outk_length];exact hlt) ?_ ?_
  ·show Nat.blt (min H3.n (H.n+1)) H3.n=true
   rw [g1',Nat.min_eq_right (Nat.le_of_lt x2.2)]
   exact Nat.ble_eq_true_of_le x2.2
  ·intro wl2 hwl2
   refine Ow.nil ⟨fun _=>by rfl,?_⟩
   show Cw _ _ _ _ _
   refine Cw.region ?_
   iterate 2 (refine Ow.popM rfl ?_;simp only [S0,Nat.reduceEqDiff,e14,fw_succ (show k<2^62 by omega)])
   refine Ow.nilM ⟨nofun,hlt,?_,?_⟩
   ·simp only [S0,Nat.reduceEqDiff,e0,e1,e5,e6,e13,and_self]
   refine ⟨⟨?_,?_,?_⟩,⟨x2.1,?_⟩,⟨x3.1,?_⟩,x4,?_,?_⟩
   ·have:=x1.n;show H.n≤H3.n;omega
   ·intro id hid
    show (H3.t.set (H.n+1) _).get id=_
    rw [T.get_set_ne _ _ (by omega),g2',T.get_set_ne _ _ (by omega)]
    exact x1.get id hid
   ·show _≤wl2
    have:=x1.wl
    have:=x1.n
    have y:min H1.wl H1.n≤wl:=hx2.wl
    rw [hwl2]
    show min H.wl H.n≤min (min wl H3.wl) (min H3.n (H.n+1))
    omega
   ·show H.n+1<H3.n;omega
   ·show H.n<H3.n;omega
   ·show (H3.t.set (H.n+1) _).get (H.n+1)=_
    rw [T.get_set_self,←outk_set hlt,List.map_set]
   ·show (H3.t.set (H.n+1) _).get H.n=_
    rw [T.get_set_ne _ _ (Ne.symm x4),g2',T.get_set_self]
 ·obtain rfl:k=la.length:=by omega
  obtain ⟨x1,x2,x3,x4,x5,x6⟩:=id hh
  (refine Ow.popM rfl ?_;simp only [S0,Nat.reduceEqDiff,e14,e13,lt_false (Nat.lt_irrefl la.length)])
  refine Ow.nilM ⟨nofun,?_⟩
  refine Cw.seq (Cw.cond (t:=false) (by simp only [S0,Nat.reduceEqDiff]) ?_)
  refine Cw.exit ?_
  show Cw _ _ _ _ _
  refine Cw.seq (Cw.region ?_)
  iterate 2 (refine Ow.popM rfl ?_;simp only [S0,Nat.reduceEqDiff,e6])
  refine Ow.nilM ⟨nofun,?_⟩
  refine Cw.ret ?_
  simp only [FnPost,resOf,tupled,S0,Nat.reduceEqDiff]
  refine ⟨x1,H.n+1,x2.1,?_,x2.2,?_⟩
  ·rw [ofN_length]
  ·rw [x5,outk_full]
theorem sub_raw (hx:Ext0 ext) {H:AH} {va vb:Value} {la lb:List Bool} {Y:Nat} (hY:∀ k,k<la.length→Y.testBit k=(!bx lb k)) (ha:IsB H va la) (hb:IsB H vb lb) (hl:la.length<2^36) :
  Run (Cx ext) 148 [va,vb] H fun r H'=>AL.Ext H H'∧∃ id,H.n≤id∧IsM H' r (ofN la.length (val la+Y+true.toNat)) id:=by
 refine Run.intro (fi:=IR.fi148) (hx 148 (by decide)) (by kernel_rfl) ?_
 unfold IR.fi148
 simp only [envOf_cons,envOf_nil]
 refine Cw.seq (Cw.region ?_)
 (refine Ow.popM rfl ?_;simp only [S0,Nat.reduceEqDiff])
 refine Ow.nilM ⟨nofun,?_⟩
 refine Cw.seq (Cw.region ?_)
 refine Ow.callE (k:=168) (fs:=[]) (cs:=[]) (vs:=[.bool true]) rfl rfl rfl ((adder_any hx).mono (Q':=fun r H'=>AL.Ext { H with wl:=H.n } H'∧(H'.n=H.n+1∧H'.t=H.t.set H.n ⟨[.bool true],0⟩∧r=.func (.func 196) ⟨[]⟩ ⟨[.pointer (some ⟨H.n,0,none⟩)]⟩)) ?_) ?_
 ·rintro r H' ⟨rfl,rfl⟩
  exact ⟨(AL.Ext.refl _).new _,rfl,rfl,rfl⟩
 rintro v H1 w hx1 ⟨hn1,ht1,rfl⟩
 obtain ⟨aa,acap,ea⟩:=ha.shape
 subst ea
 iterate 2 (refine Ow.popM rfl ?_;simp only [S0,Nat.reduceEqDiff])
 refine Ow.makeB (k:=.i64) (n:=la.length) rfl (by simp only [S0,Nat.reduceEqDiff]) (by omega) ?_
 iterate 2 (refine Ow.popM rfl ?_;simp only [S0,Nat.reduceEqDiff])
 refine Ow.nilM ⟨fun _=>by rfl,?_⟩
 refine Cw.seq (Cw.seq (Cw.region ?_))
 iterate 3 (refine Ow.popM rfl ?_;simp only [S0,Nat.reduceEqDiff])
 refine Ow.nilM ⟨nofun,?_⟩
 have hn1':H1.n=H.n+1:=hn1
 have hI:∀ k,k<la.length→(val la+Y+true.toNat).testBit k=((bx la k != (!bx lb k)) != cy (val la) Y true k)∧cy (val la) Y true (k+1)=(bx la k&&(!bx lb k)||(cy (val la) Y true k&&(bx la k||(!bx lb k)))):=by
  intro k hk
  have:=full_add (val la) Y true k
  rw [hY k hk,val_bit la] at this
  exact this
 generalize hS:val la+Y+true.toNat=S at *
 refine Cw.block (Cw.loopI la.length (fun k E H2=>(E.get 0=some (.slice aa la.length acap)∧E.get 1=some vb∧E.get 5=some (.func (.func 196) ⟨[]⟩ ⟨[.pointer (some ⟨H.n,0,none⟩)]⟩)∧E.get 6=some (.slice (some ⟨H.n+1,0,none⟩) la.length la.length)∧E.get 13=some (.int .i64 (la.length:Int))∧E.get 14=some (.int .i64 (k:Int)))∧AddH H H2 la.length S k (H.n+1) H.n (cy (val la) Y true k)) ⟨?_,?_⟩ ?_)
 ·simp only [S0,Nat.reduceEqDiff,hn1',and_self];exact ⟨trivial,trivial,trivial,trivial,trivial,rfl⟩
 ·have hxn:=hx1.new (⟨(List.replicate la.length false).map .bool,0⟩:Blk)
  refine ⟨hxn,⟨by omega,?_⟩,⟨Nat.le_refl _,?_⟩,by omega,?_,?_⟩
  ·show H.n+1<H1.n+1;omega
  ·show H.n<H1.n+1;omega
  ·show (H1.t.set H1.n _).get (H.n+1)=_
   rw [hn1',T.get_set_self,outk_zero]
  ·show (H1.t.set H1.n _).get H.n=_
   rw [T.get_set_ne _ _ (by omega),ht1,T.get_set_self,cy_zero]
 clear hx1 hn1 hn1' ht1
 rintro k E H1 hk ⟨⟨e0,e1,e5,e6,e13,e14⟩,hh⟩
 refine Cw.seq (Cw.region ?_)
 by_cases hlt:k<la.length
 ·obtain ⟨x1,x2,x3,x4,x5,x6⟩:=id hh
  have ha1:IsB H1 (.slice aa la.length acap) la:=ha.ext x1
  have hb1:IsB H1 vb lb:=hb.ext x1
  obtain ⟨ad,cap,bk,ee,h1,h2,h3⟩:=ha1.at (bx_lt hlt)
  simp only [Value.slice.injEq] at ee
  obtain ⟨rfl,-,rfl⟩:=ee
  (refine Ow.popM rfl ?_;simp only [S0,Nat.reduceEqDiff,e14,e13,lt_true hlt])
  refine Ow.nilM ⟨nofun,?_⟩
  refine Cw.seq (Cw.cond (t:=true) (by simp only [S0,Nat.reduceEqDiff]) ?_)
  refine Cw.skip ?_
  refine Cw.seq (Cw.block (Cw.seq (Cw.region ?_)))
  iterate 2 (refine Ow.popM rfl ?_;simp only [S0,Nat.reduceEqDiff,e14])
  refine Ow.nilM ⟨nofun,?_⟩
  refine Cw.region ?_
  iterate 6 (refine Ow.popM rfl ?_;simp only [S0,Nat.reduceEqDiff,e0,e5,e6,ix_ok hlt])
  (refine Ow.hopM rfl rfl ?_;simp only [S0,Nat.reduceEqDiff,h2,h3])
  iterate 2 (refine Ow.popM rfl ?_;simp only [S0,Nat.reduceEqDiff,e1])
  refine Ow.callE (k:=169) (fs:=[]) (cs:=[]) (vs:=[vb,.int .i64 k]) (R:=fun r H'=>H'={ H1 with wl:=H1.n }∧r=.bool (bx lb k)) rfl rfl (by simp only [S0,Nat.reduceEqDiff]) ((at_any hx (hb1.wl)).mono fun r H' hr=>⟨by rw [hr.1];exact AL.Ext.refl _,hr⟩) ?_
  rintro v H2 wl hx2 ⟨rfl,rfl⟩
  (refine Ow.popM rfl ?_;simp only [S0,Nat.reduceEqDiff])
  have hcar:∀ x,({ H1 with wl:=x }:AH).t.get H.n=some ⟨[.bool (cy (val la) Y true k)],0⟩:=fun _=>x6
  refine Ow.call (k:=196) (fs:=[]) (cs:=[.pointer (some ⟨H.n,0,none⟩)]) (vs:=[.bool (bx la k),.bool ((!bx lb k))]) rfl (by simp only [S0,Nat.reduceEqDiff,e5]) (by simp only [S0,Nat.reduceEqDiff]) (step_any hx (id:=H.n) (c:=cy (val la) Y true k) (H:={ H1 with wl:=H1.n }) x3.2 x6) ?_
  rintro v H3 ⟨g1,g2,g3,rfl⟩
  have hfa:=hI k hlt
  have g3':H3.wl=H.n:=by rw [g3];exact Nat.min_eq_right (Nat.le_of_lt x3.2)
  refine ⟨true,by rw [g3'];exact Nat.ble_eq_true_of_le x3.2,?_⟩
  have g1':H3.n=H1.n:=g1
  have g2':H3.t=H1.t.set H.n ⟨[.bool (cy (val la) Y true (k+1))],0⟩:=by rw [hfa.2];exact g2
  rw [←hfa.1]
  (refine Ow.popM rfl ?_;simp only [S0,Nat.reduceEqDiff,ix_ok hlt])
  have hout:H3.t.get (H.n+1)=some ⟨(outk la.length S k).map .bool,0⟩:=by rw [g2',T.get_set_ne _ _ x4];exact x5
  refine Ow.store1 (b:=true) (ad:=⟨H.n+1,k,none⟩) (v:=.bool (S.testBit k)) rfl (by simp only [S0,Nat.reduceEqDiff]) (by simp only [S0,Nat.reduceEqDiff]) rfl rfl hout (by simp) (by simp [outk_length];exact hlt) ?_ ?_
  ·show Nat.blt (min H3.n (H.n+1)) H3.n=true
   rw [g1',Nat.min_eq_right (Nat.le_of_lt x2.2)]
   exact Nat.ble_eq_true_of_le x2.2
  ·intro wl2 hwl2
   refine Ow.nil ⟨fun _=>by rfl,?_⟩
   show Cw _ _ _ _ _
   refine Cw.region ?_
   iterate 2 (refine Ow.popM rfl ?_;simp only [S0,Nat.reduceEqDiff,e14,fw_succ (show k<2^62 by omega)])
   refine Ow.nilM ⟨nofun,hlt,?_,?_⟩
   ·simp only [S0,Nat.reduceEqDiff,e0,e1,e5,e6,e13,and_self]
   refine ⟨⟨?_,?_,?_⟩,⟨x2.1,?_⟩,⟨x3.1,?_⟩,x4,?_,?_⟩
   ·have:=x1.n;show H.n≤H3.n;omega
   ·intro id hid
    show (H3.t.set (H.n+1) _).get id=_
    rw [T.get_set_ne _ _ (by omega),g2',T.get_set_ne _ _ (by omega)]
    exact x1.get id hid
   ·show _≤wl2
    have:=x1.wl
    have:=x1.n
    have y:min H1.wl H1.n≤wl:=hx2.wl
    rw [hwl2]
    show min H.wl H.n≤min (min wl H3.wl) (min H3.n (H.n+1))
    omega
   ·show H.n+1<H3.n;omega
   ·show H.n<H3.n;omega
   ·show (H3.t.set (H.n+1) _).get (H.n+1)=_
    rw [T.get_set_self,←outk_set hlt,List.map_set]
   ·show (H3.t.set (H.n+1) _).get H.n=_
    rw [T.get_set_ne _ _ (Ne.symm x4),g2',T.get_set_self]
 ·obtain rfl:k=la.length:=by omega
  obtain ⟨x1,x2,x3,x4,x5,x6⟩:=id hh
  (refine Ow.popM rfl ?_;simp only [S0,Nat.reduceEqDiff,e14,e13,lt_false (Nat.lt_irrefl la.length)])
  refine Ow.nilM ⟨nofun,?_⟩
  refine Cw.seq (Cw.cond (t:=false) (by simp only [S0,Nat.reduceEqDiff]) ?_)
  refine Cw.exit ?_
  show Cw _ _ _ _ _
  refine Cw.seq (Cw.region ?_)
  iterate 2 (refine Ow.popM rfl ?_;simp only [S0,Nat.reduceEqDiff,e6])
  refine Ow.nilM ⟨nofun,?_⟩
  refine Cw.ret ?_
  simp only [FnPost,resOf,tupled,S0,Nat.reduceEqDiff]
  refine ⟨x1,H.n+1,x2.1,?_,x2.2,?_⟩
  ·rw [ofN_length]
  ·rw [x5,outk_full]
theorem add_any (hx:Ext0 ext) {H:AH} {va vb:Value} {la lb:List Bool} (ha:IsB H va la) (hb:IsB H vb lb) (hl:la.length<2^36) :
  Run (Cx ext) 114 [va,vb] H fun r H'=>AL.Ext H H'∧∃ id,H.n≤id∧IsM H' r (ofN la.length (val la+val lb)) id:=
 add_raw hx (fun k _=>val_bit lb k) ha hb hl
theorem not_bits (n:Nat) (l:List Bool):∀ k,k<n→(2^n-1-val l % 2^n).testBit k=!bx l k:=by
 intro k hk
 have h:=Nat.testBit_two_pow_sub_succ (Nat.mod_lt (val l) (Nat.two_pow_pos n)) k
 rw [show 2^n-1-val l % 2^n=2^n-(val l % 2^n+1) by omega,h,Nat.testBit_mod_two_pow,val_bit]
 simp [hk]
theorem sub_any (hx:Ext0 ext) {H:AH} {va vb:Value} {la lb:List Bool} (ha:IsB H va la) (hb:IsB H vb lb) (hl:la.length<2^36) :
  Run (Cx ext) 148 [va,vb] H fun r H'=>AL.Ext H H'∧∃ id,H.n≤id∧IsM H' r (ofN la.length (val la+(2^la.length-val lb % 2^la.length))) id:=by
 have h:=sub_raw hx (not_bits la.length lb) ha hb hl
 have:val la+(2^la.length-1-val lb % 2^la.length)+true.toNat=val la+(2^la.length-val lb % 2^la.length):=by
  have:=Nat.mod_lt (val lb) (Nat.two_pow_pos la.length)
  simp only [Bool.toNat_true]
  omega
 rw [this] at h
 exact h
end
section
open Go Go.AL
variable {ext:Nat→Option (List Value→AH→Option (Value×AH))}
theorem ge0_true (n:Nat):decide ((n:Int)≥0)=true:=by simp
end
section
open Go Go.AL
variable {ext:Nat→Option (List Value→AH→Option (Value×AH))}
section
variable {C:Ctx} {E:Env} {H:AH} {d:Option Nat} {g:Option (Nat×Bool)} {os:List IOper} {Q:Env→AH→List (Bool×Bool)→Prop}
theorem Ow.copyB {x y:Operand} {u:Value} {l o:List Bool} {id k m cap:Nat} (hg:wanted E g=some true) (hx:ev E x=some (.slice (some ⟨id,k,none⟩) m cap)) (hy:ev E y=some u) (hu:IsB H u l) (hm:k+m≤o.length)
  (hid:id<H.n) (hb:H.t.get id=some ⟨o.map .bool,0⟩) (hml:m≤l.length) (hm0:0<m)
  (h:∀ wl v,min H.wl id=wl→Ow C os (put E d v) { (H.write id ⟨(o.take k++(l.take m++o.drop (k+m))).map .bool,0⟩) with wl:=wl } fun E' H' fl=>Q E' H' ((true,true)::fl)):Ow C (⟨d,g,.copy 1 x y⟩::os) E H Q:=by
 obtain ⟨a,uc,rfl,_,h2⟩:=hu
 obtain ⟨ad,bk,rfl,h4,h5,h6⟩:=h2 (by rintro rfl;simp at hml;omega)
 have hmin:min H.n id=id:=Nat.min_eq_right (Nat.le_of_lt hid)
 refine Ow.wop (v:=.int .i64 m) (H1:=({ H with wl:=H.n }:AH).write id ⟨(o.take k++(l.take m++o.drop (k+m))).map .bool,0⟩) (b:=true) hg rfl rfl ?_ ?_ (h _ _ ?_)
 ·have hmin:Nat.min l.length m=m:=Nat.min_eq_right hml
  have hz:m.beq 0=false:=beq_zero (by omega)
  have hrd:rdSlice { H with wl:=H.n } (m*1) (some ad)=some ((l.take m).map .bool):=by
   rw [Nat.mul_one]
   simp only [rdSlice,hz,cond_false,h5]
   have:=takeCells_eq (cs:=bk.cells) (off:=ad.off) (l:=(l.take m).map .bool) (fun i hi=>by
    rw [List.length_map,List.length_take,Nat.min_eq_left hml] at hi
    rw [h6 i _ (List.getElem?_eq_getElem (by omega:i<l.length)),List.getElem?_map,List.getElem?_take,if_pos hi,List.getElem?_eq_getElem (by omega:i<l.length)];rfl)
   rwa [List.length_map,List.length_take,Nat.min_eq_left hml] at this
  have hput:putCells (o.map .bool) k ((l.take m).map .bool)=some ((o.take k++(l.take m++o.drop (k+m))).map .bool):=by
   unfold putCells
   have:Nat.ble (k+m) o.length=true:=Nat.ble_eq_true_of_le hm
   simp only [List.length_map,List.length_take,Nat.min_eq_left hml,this,cond_true,List.map_append,List.map_take,List.map_drop]
  simp only [AL.hop,hx,hy,hmin,hz,cond_false,hrd,hb,all_bools,hput,Bool.not_true,Bool.or_false,show Nat.beq 0 1=false from rfl]
 ·show Nat.blt (min H.n id) H.n=true
  rw [hmin];exact Nat.ble_eq_true_of_le hid
 ·show min H.wl id=min H.wl (min H.n id)
  rw [hmin]
end
theorem shl_list {n k:Nat} {l:List Bool} (hl:l.length=n) (hk:k<n):(List.replicate n false).take k++(l.take (n-k)++(List.replicate n false).drop (k+(n-k)))=ofN n (val l*2^k):=by
 have e:k+(n-k)=n:=by omega
 rw [e]
 refine ext_bits ?_ (fun i hi=>?_)
 ·simp [ofN_length];omega
 ·have hi':i<n:=by simpa [show min k n=k by omega,show min (n-k) l.length=n-k by omega,show k+(n-k)=n by omega] using hi
  rw [bx_ofN,Nat.testBit_mul_two_pow,val_bit]
  simp only [hi',decide_true,Bool.true_and,bx,List.getD_eq_getElem?_getD]
  simp only [List.take_replicate,Nat.min_eq_left (Nat.le_of_lt hk),List.drop_replicate,Nat.sub_self,List.replicate_zero,List.append_nil]
  by_cases hik:i<k
  ·rw [List.getElem?_append_left (by simpa using hik)]
   simp [hik,show ¬ k≤i by omega]
  ·rw [List.getElem?_append_right (by simpa using hik),List.length_replicate,List.getElem?_take,if_pos (by omega)]
   simp [show k≤i by omega]
theorem big_zero (n k x:Nat) (h:n≤k):List.replicate n false=ofN n (x*2^k):=by
 refine ext_bits (by simp [ofN_length]) (fun i hi=>?_)
 rw [List.length_replicate] at hi
 rw [bx_ofN,Nat.testBit_mul_two_pow]
 simp [bx,List.getD_eq_getElem?_getD,hi,show ¬ k≤i by omega]
theorem max0 (n:Int):(if (0:Int) > n then (0:Int) else n)=(n.toNat:Int):=by split<;>omega
theorem shl_any (hx:Ext0 ext) {H:AH} {v:Value} {l:List Bool} {n:Int} (hv:IsB H v l) (hl:l.length<2^36) :
  Run (Cx ext) 183 [v,.int .i64 n] H fun r H'=>AL.Ext H H'∧∃ id,H.n≤id∧IsM H' r (ofN l.length (val l*2^n.toNat)) id:=by
 refine Run.intro (fi:=IR.fi183) (hx 183 (by decide)) (by kernel_rfl) ?_
 unfold IR.fi183
 simp only [envOf_cons,envOf_nil]
 obtain ⟨aa,ca,ea⟩:=hv.shape
 subst ea
 refine Cw.seq (Cw.region ?_)
 (refine Ow.popM rfl ?_;simp only [S0,Nat.reduceEqDiff])
 refine Ow.nilM ⟨nofun,?_⟩
 refine Cw.seq (Cw.region ?_)
 iterate 2 (refine Ow.popM rfl ?_;simp only [S0,Nat.reduceEqDiff])
 refine Ow.makeB (k:=.i64) (n:=l.length) rfl (by simp only [S0,Nat.reduceEqDiff]) (by omega) ?_
 (refine Ow.popM rfl ?_;simp only [S0,Nat.reduceEqDiff])
 refine Ow.nilM ⟨nofun,?_⟩
 have hx1:AL.Ext H (H.new ⟨(List.replicate l.length false).map .bool,0⟩):=(AL.Ext.refl H).new _
 refine Cw.seq (Cw.seq (Cw.region ?_))
 iterate 3 (refine Ow.popM rfl ?_;simp only [S0,Nat.reduceEqDiff,AL.foldV,amax2,max0])
 refine Ow.nilM ⟨nofun,?_⟩
 refine Cw.seq (Cw.region ?_)
 iterate 3 (refine Ow.popM rfl ?_;simp only [S0,Nat.reduceEqDiff])
 by_cases hlt:n.toNat<l.length
 ·(refine Ow.popM rfl ?_;simp only [S0,Nat.reduceEqDiff,lt_true hlt])
  refine Ow.nilM ⟨nofun,?_⟩
  refine Cw.cond (t:=true) (by simp only [S0,Nat.reduceEqDiff]) ?_
  refine Cw.region ?_
  iterate 2 (refine Ow.popM rfl ?_;simp only [S0,Nat.reduceEqDiff])
  have hls:AL.pop (put (put (put (put (put (put .nil (some 1) (.int .i64 n)) (some 0) (.slice aa l.length ca)) (some 4) (.slice none 0 0)) (some 5) (.slice (some ⟨H.n,0,none⟩) l.length l.length)) (some 1) (.int .i64 (n.toNat:Int))) (some 16) (.int .i64 (n.toNat:Int))) (.mov (.tmp 16))=some (.int .i64 (n.toNat:Int)):=by simp only [S0,Nat.reduceEqDiff]
  have e1:(0:Int)≤(n.toNat:Int)∧(n.toNat:Int)≤(l.length:Int):=by omega
  have e2:l.length.beq UC=false:=by
   cases hq:l.length.beq UC with
   | false=>rfl
   | true=>have:=Nat.eq_of_beq_eq_true hq;unfold UC at this;omega
  have e3:l.length.beq n.toNat=false:=by
   cases hq:l.length.beq n.toNat with
   | false=>rfl
   | true=>have:=Nat.eq_of_beq_eq_true hq;omega
  (refine Ow.popM rfl ?_;simp only [S0,Nat.reduceEqDiff,evo,aslice,optNat,asNat,e1,e2,e3,and_self,Option.map_some,show Nat.beq 1 0=false from rfl])
  (refine Ow.popM rfl ?_;simp only [S0,Nat.reduceEqDiff])
  refine Ow.copyB (id:=H.n) (k:=n.toNat) (m:=l.length-n.toNat) (cap:=l.length-n.toNat) (o:=List.replicate l.length false) rfl (by simp only [S0,Nat.reduceEqDiff]) (by simp only [S0,Nat.reduceEqDiff]) (hv.ext hx1) (by simp;omega) (Nat.lt_succ_self _) (T.get_set_self _ _ _) (by omega) (by omega) ?_
  intro wl w hwl
  refine Ow.nilM ⟨nofun,?_⟩
  show Cw _ _ _ _ _
  refine Cw.seq (Cw.region ?_)
  iterate 2 (refine Ow.popM rfl ?_;simp only [S0,Nat.reduceEqDiff])
  refine Ow.nilM ⟨nofun,?_⟩
  refine Cw.ret ?_
  simp only [Then,InBlock,Rnd,FnPost,resOf,tupled,S0,Nat.reduceEqDiff]
  refine ⟨⟨Nat.le_succ _,fun i hi=>?_,?_⟩,H.n,Nat.le_refl _,by rw [ofN_length],Nat.lt_succ_self _,?_⟩
  ·show ((H.t.set H.n _).set H.n _).get i=_
   rw [T.get_set_ne _ _ (by omega),T.get_set_ne _ _ (by omega)]
  ·show min H.wl H.n≤wl
   rw [←hwl];exact Nat.le_refl _
  ·show ((H.t.set H.n _).set H.n _).get H.n=_
   rw [T.get_set_self,shl_list rfl hlt]
 ·(refine Ow.popM rfl ?_;simp only [S0,Nat.reduceEqDiff,lt_false hlt])
  refine Ow.nilM ⟨nofun,?_⟩
  refine Cw.cond (t:=false) (by simp only [S0,Nat.reduceEqDiff]) ?_
  refine Cw.skip ?_
  show Cw _ _ _ _ _
  refine Cw.seq (Cw.region ?_)
  iterate 2 (refine Ow.popM rfl ?_;simp only [S0,Nat.reduceEqDiff])
  refine Ow.nilM ⟨nofun,?_⟩
  refine Cw.ret ?_
  simp only [Then,InBlock,Rnd,FnPost,resOf,tupled,S0,Nat.reduceEqDiff]
  refine ⟨hx1,H.n,Nat.le_refl _,by rw [ofN_length],Nat.lt_succ_self _,?_⟩
  rw [←big_zero _ _ _ (by omega)]
  exact T.get_set_self _ _ _
end
section
open Go Go.AL
variable {ext:Nat→Option (List Value→AH→Option (Value×AH))}
theorem wrap_small {x:Nat} (h:x<2^63):IntKind.wrap .i64 (x:Int)=(x:Int):=by
 have e:(x:Int) % 2^64=x:=Int.emod_eq_of_lt (by omega) (by omega)
 unfold IntKind.wrap
 simp only [show IntKind.bits .i64=64 from rfl,show IntKind.signed .i64=true from rfl,e,Bool.true_and,decide_eq_true_eq,Nat.reduceSub]
 rw [if_neg (by omega)]
theorem and1 (a:Int):IntKind.wrap .i64 ((BitVec.ofInt (IntKind.bits .i64) a &&& BitVec.ofInt (IntKind.bits .i64) 1).toNat:Int)=a % 2:=by
 have e:(BitVec.ofInt (IntKind.bits .i64) a &&& BitVec.ofInt (IntKind.bits .i64) 1).toNat=(a % 2).toNat:=by
  rw [BitVec.toNat_and,show (BitVec.ofInt (IntKind.bits .i64) 1).toNat=1 from rfl,Nat.and_one_is_mod]
  show (BitVec.ofInt 64 a).toNat % 2=_
  rw [BitVec.toNat_ofInt]
  omega
 rw [e,wrap_small (by omega)]
 omega
def ofI (n:Nat) (x:Int):List Bool:=(List.range n).map fun i=>x.fdiv (2^i) % 2 == 1
theorem ofI_length (n:Nat) (x:Int):(ofI n x).length=n:=by simp [ofI]
end
section
open Go Go.AL
variable {ext:Nat→Option (List Value→AH→Option (Value×AH))}
theorem mod_step {B k:Nat}:B % 2^(k+1)=B % 2^k+(if B.testBit k then 2^k else 0):=by
 rw [Nat.mod_pow_succ,Nat.testBit_eq_decide_div_mod_eq]
 rcases Nat.mod_two_eq_zero_or_one (B / 2^k) with h | h<;>rw [h]<;>simp
theorem min_nat (a b:Nat):(if (b:Int)<(a:Int) then (b:Int) else (a:Int))=((min a b:Nat):Int):=by split<;>omega
theorem mul_any (hx:Ext0 ext) {H:AH} {va vb:Value} {la lb:List Bool} (ha:IsB H va la) (hb:IsB H vb lb) (hl:la.length<2^36) :
  Run (Cx ext) 149 [va,vb] H fun r H'=>AL.Ext H H'∧∃ id,H.n≤id∧IsM H' r (ofN la.length (val la*val lb)) id:=by
 refine Run.intro (fi:=IR.fi149) (hx 149 (by decide)) (by kernel_rfl) ?_
 unfold IR.fi149
 simp only [envOf_cons,envOf_nil]
 obtain ⟨aa,ca,ea⟩:=ha.shape
 obtain ⟨ab,cb,eb⟩:=hb.shape
 subst ea
 subst eb
 refine Cw.seq (Cw.region ?_)
 (refine Ow.popM rfl ?_;simp only [S0,Nat.reduceEqDiff])
 refine Ow.nilM ⟨nofun,?_⟩
 refine Cw.seq (Cw.region ?_)
 iterate 2 (refine Ow.popM rfl ?_;simp only [S0,Nat.reduceEqDiff])
 refine Ow.makeB (k:=.i64) (n:=la.length) rfl (by simp only [S0,Nat.reduceEqDiff]) (by omega) ?_
 (refine Ow.popM rfl ?_;simp only [S0,Nat.reduceEqDiff])
 refine Ow.nilM ⟨nofun,?_⟩
 refine Cw.seq (Cw.seq (Cw.region ?_))
 iterate 6 (refine Ow.popM rfl ?_;simp only [S0,Nat.reduceEqDiff,AL.foldV,amin2,min_nat])
 refine Ow.nilM ⟨nofun,?_⟩
 refine Cw.block (Cw.loopI (min la.length lb.length) (fun k E H2=>(E.get 0=some (.slice aa la.length ca)∧E.get 1=some (.slice ab lb.length cb)∧E.get 14=some (.int .i64 ((min la.length lb.length:Nat):Int))∧E.get 15=some (.int .i64 (k:Int)))∧AL.Ext H H2∧∃ u id,E.get 5=some u∧H.n≤id∧IsM H2 u (ofN la.length (val la*(val lb % 2^k))) id) ⟨?_,(AL.Ext.refl _).new _,.slice (some ⟨H.n,0,none⟩) la.length la.length,H.n,by simp only [S0,Nat.reduceEqDiff],Nat.le_refl _,by rw [ofN_length],Nat.lt_succ_self _,?_⟩ ?_)
 ·simp only [S0,Nat.reduceEqDiff];exact ⟨trivial,trivial,trivial,rfl⟩
 ·have e:=big_zero la.length la.length 0 (Nat.le_refl _)
  simp only [Nat.zero_mul] at e
  rw [Nat.pow_zero,Nat.mod_one,Nat.mul_zero,←e]
  exact T.get_set_self _ _ _
 rintro k E H2 hk ⟨⟨e0,e1,e14,e15⟩,hxt,u,id,e5,hid,hu⟩
 refine Cw.seq (Cw.region ?_)
 by_cases hlt:k<min la.length lb.length
 ·(refine Ow.popM rfl ?_;simp only [S0,Nat.reduceEqDiff,e14,e15,lt_true hlt])
  refine Ow.nilM ⟨nofun,?_⟩
  refine Cw.seq (Cw.cond (t:=true) (by simp only [S0,Nat.reduceEqDiff]) ?_)
  refine Cw.skip ?_
  refine Cw.seq (Cw.block (Cw.seq (Cw.region ?_)))
  iterate 2 (refine Ow.popM rfl ?_;simp only [S0,Nat.reduceEqDiff,e15])
  refine Ow.nilM ⟨nofun,?_⟩
  have hltb:k<lb.length:=by omega
  obtain ⟨ad,cap,bk,ee,h1,h2,h3⟩:=(hb.ext hxt).at (bx_lt hltb)
  simp only [Value.slice.injEq] at ee
  obtain ⟨rfl,-,rfl⟩:=ee
  refine Cw.seq (Cw.region ?_)
  iterate 3 (refine Ow.popM rfl ?_;simp only [S0,Nat.reduceEqDiff,e1,ix_ok hltb])
  (refine Ow.hopM rfl rfl ?_;simp only [S0,Nat.reduceEqDiff,h2,h3])
  refine Ow.nilM ⟨nofun,?_⟩
  have hstep:=mod_step (B:=val lb) (k:=k)
  rw [val_bit] at hstep
  cases hbit:bx lb k with
  | true=>
    rw [hbit] at hstep
    refine Cw.cond (t:=true) (by simp only [S0,Nat.reduceEqDiff,hbit]) ?_
    refine Cw.region ?_
    iterate 3 (refine Ow.popM rfl ?_;simp only [S0,Nat.reduceEqDiff,e0,e5])
    refine Ow.callE (k:=183) (fs:=[]) (cs:=[]) (vs:=[.slice aa la.length ca,.int .i64 k]) rfl rfl (by simp only [S0,Nat.reduceEqDiff]) (shl_any hx ((ha.ext hxt).wl) hl) ?_
    rintro v H3 w hx3 ⟨id3,hid3,hv⟩
    simp only [Int.toNat_natCast] at hv
    have hu3:IsB { H3 with wl:=w } u _:=hu.isB.ext hx3
    have hv3:IsB { H3 with wl:=w } v _:=hv.isB
    refine Ow.callE (k:=114) (fs:=[]) (cs:=[]) (vs:=[u,v]) rfl rfl (by simp only [S0,Nat.reduceEqDiff]) (add_any hx hu3.wl hv3.wl (by rw [ofN_length];exact hl)) ?_
    rintro v4 H4 w4 hx4 ⟨id4,hid4,hv4⟩
    (refine Ow.popM rfl ?_;simp only [S0,Nat.reduceEqDiff])
    refine Ow.nilM ⟨nofun,?_⟩
    show Cw _ _ _ _ _
    refine Cw.region ?_
    iterate 2 (refine Ow.popM rfl ?_;simp only [S0,Nat.reduceEqDiff,e15,fw_succ (show k<2^62 by omega)])
    refine Ow.nilM ⟨nofun,hlt,?_,(hxt.trans hx3).trans hx4,v4,id4,?_,?_,?_⟩
    ·simp only [S0,Nat.reduceEqDiff,e0,e1,e14,and_self]
    ·simp only [S0,Nat.reduceEqDiff]
    ·have:=hxt.n
     have:=hx3.n
     have:H2.n≤H3.n:=this
     have:H3.n≤id4:=hid4
     omega
    ·rw [ofN_length,val_ofN,val_ofN] at hv4
     have:ofN la.length (val la*(val lb % 2^(k+1)))=ofN la.length (val la*(val lb % 2^k) % 2^la.length+val la*2^k % 2^la.length):=by
      refine ofN_eq ?_
      rw [←Nat.add_mod,hstep,if_pos rfl,Nat.mul_add]
     rw [this]
     exact hv4
  | false=>
    rw [hbit] at hstep
    refine Cw.cond (t:=false) (by simp only [S0,Nat.reduceEqDiff,hbit]) ?_
    refine Cw.skip ?_
    show Cw _ _ _ _ _
    refine Cw.region ?_
    iterate 2 (refine Ow.popM rfl ?_;simp only [S0,Nat.reduceEqDiff,e15,fw_succ (show k<2^62 by omega)])
    refine Ow.nilM ⟨nofun,hlt,?_,hxt,u,id,?_,hid,?_⟩
    ·simp only [S0,Nat.reduceEqDiff,e0,e1,e14,and_self]
    ·simp only [S0,Nat.reduceEqDiff,e5]
    ·have e:val lb % 2^(k+1)=val lb % 2^k:=by rw [hstep];simp
     rw [e];exact hu
 ·obtain rfl:k=min la.length lb.length:=by omega
  (refine Ow.popM rfl ?_;simp only [S0,Nat.reduceEqDiff,e14,e15,lt_false (Nat.lt_irrefl (min la.length lb.length))])
  refine Ow.nilM ⟨nofun,?_⟩
  refine Cw.seq (Cw.cond (t:=false) (by simp only [S0,Nat.reduceEqDiff]) ?_)
  refine Cw.exit ?_
  show Cw _ _ _ _ _
  refine Cw.seq (Cw.region ?_)
  iterate 2 (refine Ow.popM rfl ?_;simp only [S0,Nat.reduceEqDiff,e5])
  refine Ow.nilM ⟨nofun,?_⟩
  refine Cw.ret ?_
  simp only [Then,InBlock,Rnd,FnPost,resOf,tupled,S0,Nat.reduceEqDiff]
  refine ⟨hxt,id,hid,?_⟩
  have:ofN la.length (val la*val lb)=ofN la.length (val la*(val lb % 2^min la.length lb.length)):=by
   by_cases h:la.length≤lb.length
   ·rw [Nat.min_eq_left h]
    refine ofN_eq ?_
    rw [Nat.mul_mod,Nat.mul_mod (val la) (val lb % _),Nat.mod_mod]
   ·rw [Nat.min_eq_right (by omega),Nat.mod_eq_of_lt (val_lt lb)]
  rw [this]
  exact hu
theorem neg_any (hx:Ext0 ext) {H:AH} {va:Value} {la:List Bool} (ha:IsB H va la) (hl:la.length<2^36) :
  Run (Cx ext) 199 [va] H fun r H'=>AL.Ext H H'∧∃ id,H.n≤id∧IsM H' r (ofN la.length (2^la.length-val la % 2^la.length)) id:=by
 refine Run.intro (fi:=IR.fi199) (hx 199 (by decide)) (by kernel_rfl) ?_
 unfold IR.fi199
 simp only [envOf_cons,envOf_nil]
 obtain ⟨aa,ca,ea⟩:=ha.shape
 subst ea
 refine Cw.seq (Cw.region ?_)
 (refine Ow.popM rfl ?_;simp only [S0,Nat.reduceEqDiff])
 refine Ow.nilM ⟨nofun,?_⟩
 refine Cw.seq (Cw.region ?_)
 iterate 2 (refine Ow.popM rfl ?_;simp only [S0,Nat.reduceEqDiff])
 refine Ow.makeB (k:=.i64) (n:=la.length) rfl (by simp only [S0,Nat.reduceEqDiff]) (by omega) ?_
 have hx1:AL.Ext H (H.new ⟨(List.replicate la.length false).map .bool,0⟩):=(AL.Ext.refl _).new _
 have hm:IsM (H.new ⟨(List.replicate la.length false).map .bool,0⟩) (.slice (some ⟨H.n,0,none⟩) la.length la.length) (List.replicate la.length false) H.n:=⟨by rw [List.length_replicate],Nat.lt_succ_self _,T.get_set_self _ _ _⟩
 have e:=big_zero la.length la.length 0 (Nat.le_refl _)
 simp only [Nat.zero_mul] at e
 (refine Ow.popM rfl ?_;simp only [S0,Nat.reduceEqDiff])
 refine Ow.callE (k:=148) (fs:=[]) (cs:=[]) (vs:=[.slice (some ⟨H.n,0,none⟩) la.length la.length,.slice aa la.length ca]) rfl rfl (by simp only [S0,Nat.reduceEqDiff]) (sub_any hx hm.isB.wl ((ha.ext hx1).wl) (by rw [List.length_replicate];exact hl)) ?_
 rintro v H3 w hx3 ⟨id3,hid3,hv⟩
 (refine Ow.popM rfl ?_;simp only [S0,Nat.reduceEqDiff])
 refine Ow.nilM ⟨nofun,?_⟩
 refine Cw.ret ?_
 simp only [Then,InBlock,Rnd,FnPost,resOf,tupled,S0,Nat.reduceEqDiff]
 rw [List.length_replicate,e,val_ofN,Nat.zero_mod,Nat.zero_add] at hv
 refine ⟨hx1.trans hx3,id3,?_,hv⟩
 have:H.n+1≤id3:=hid3
 omega
end
section
open Go Go.AL
variable {ext:Nat→Option (List Value→AH→Option (Value×AH))}
theorem gt0_true {n:Nat} (h:0<n):decide ((n:Int) > 0)=true:=by simp;omega
theorem one_list {n:Nat} (h:0<n):(List.replicate n false).set 0 true=ofN n 1:=by
 refine ext_bits (by simp [ofN_length]) (fun i hi=>?_)
 have hi':i<n:=by simpa using hi
 rw [bx_ofN]
 have h1:Nat.testBit 1 i=decide (i=0):=by
  cases i with
  | zero=>rfl
  | succ i=>rw [Nat.testBit_succ];simp
 rw [h1]
 by_cases h0:i=0
 ·subst h0;simp [bx,List.getD_eq_getElem?_getD,h]
 ·simp [bx,List.getD_eq_getElem?_getD,h0,hi',List.getElem?_set,show ¬ 0=i by omega]
theorem ofN_mul {n x y:Nat}:ofN n (x % 2^n*(y % 2^n))=ofN n (x*y):=ofN_eq (by rw [←Nat.mul_mod])
theorem pow_any (hx:Ext0 ext) {H:AH} {va vb:Value} {la lb:List Bool} (ha:IsB H va la) (hb:IsB H vb lb) (hl:la.length<2^36) (hlb:lb.length<2^36) :
  Run (Cx ext) 118 [va,vb] H fun r H'=>AL.Ext H H'∧∃ id,H.n≤id∧IsM H' r (ofN la.length (val la^val lb)) id:=by
 refine Run.intro (fi:=IR.fi118) (hx 118 (by decide)) (by kernel_rfl) ?_
 unfold IR.fi118
 simp only [envOf_cons,envOf_nil]
 obtain ⟨aa,ca,ea⟩:=ha.shape
 obtain ⟨ab,cb,eb⟩:=hb.shape
 subst ea
 subst eb
 refine Cw.seq (Cw.region ?_)
 (refine Ow.popM rfl ?_;simp only [S0,Nat.reduceEqDiff])
 refine Ow.nilM ⟨nofun,?_⟩
 refine Cw.seq (Cw.region ?_)
 iterate 2 (refine Ow.popM rfl ?_;simp only [S0,Nat.reduceEqDiff])
 refine Ow.makeB (k:=.i64) (n:=la.length) rfl (by simp only [S0,Nat.reduceEqDiff]) (by omega) ?_
 (refine Ow.popM rfl ?_;simp only [S0,Nat.reduceEqDiff])
 refine Ow.nilM ⟨nofun,?_⟩
 have hx1:AL.Ext H (H.new ⟨(List.replicate la.length false).map .bool,0⟩):=(AL.Ext.refl _).new _
 have rest:∀ E H1,E.get 0=some (.slice aa la.length ca)→E.get 1=some (.slice ab lb.length cb)→E.get 5=some (.slice (some ⟨H.n,0,none⟩) la.length la.length)→AL.Ext H H1→IsM H1 (.slice (some ⟨H.n,0,none⟩) la.length la.length) (ofN la.length 1) H.n →
   Cw (Cx ext) (match IR.fi118.code with | .seq _ (.seq _ (.seq _ r))=>r | _=>.skip) E H1 (FnPost [.tmp 4] fun r H'=>AL.Ext H H'∧∃ id,H.n≤id∧IsM H' r (ofN la.length (val la^val lb)) id):=by
  intro E H1 f0 f1 f5 hx2 hm
  unfold IR.fi118
  refine Cw.seq (Cw.region ?_)
  iterate 2 (refine Ow.popM rfl ?_;simp only [S0,Nat.reduceEqDiff,f0])
  refine Ow.nilM ⟨nofun,?_⟩
  refine Cw.seq (Cw.seq (Cw.region ?_))
  iterate 3 (refine Ow.popM rfl ?_;simp only [S0,Nat.reduceEqDiff,f1])
  refine Ow.nilM ⟨nofun,?_⟩
  refine Cw.block (Cw.loopI lb.length (fun k E H2=>(E.get 1=some (.slice ab lb.length cb)∧E.get 18=some (.slice ab lb.length cb)∧E.get 19=some (.int .i64 (lb.length:Int))∧E.get 20=some (.int .i64 (k:Int)))∧AL.Ext H H2∧(∃ u id,E.get 5=some u∧H.n≤id∧IsM H2 u (ofN la.length (val la^(val lb % 2^k))) id)∧(∃ s,E.get 6=some s∧(k<lb.length→IsB H2 s (ofN la.length (val la^2^k))))) ⟨?_,hx2,⟨.slice (some ⟨H.n,0,none⟩) la.length la.length,H.n,by simp only [S0,Nat.reduceEqDiff,f5],Nat.le_refl _,by rw [Nat.pow_zero,Nat.mod_one,Nat.pow_zero];exact hm⟩,.slice aa la.length ca,by simp only [S0,Nat.reduceEqDiff],fun _=>by rw [Nat.pow_zero,Nat.pow_one,ofN_val];exact ha.ext hx2⟩ ?_)
  ·simp only [S0,Nat.reduceEqDiff,f1];exact ⟨trivial,trivial,trivial,rfl⟩
  rintro k E H2 hk ⟨⟨e1,e18,e19,e20⟩,hxt,⟨u,id,e5,hid,hu⟩,s,e6,hs⟩
  refine Cw.seq (Cw.region ?_)
  by_cases hlt:k<lb.length
  ·have hs:=hs hlt
   (refine Ow.popM rfl ?_;simp only [S0,Nat.reduceEqDiff,e19,e20,lt_true hlt])
   refine Ow.nilM ⟨nofun,?_⟩
   refine Cw.seq (Cw.cond (t:=true) (by simp only [S0,Nat.reduceEqDiff]) ?_)
   refine Cw.skip ?_
   refine Cw.seq (Cw.block (Cw.seq (Cw.region ?_)))
   obtain ⟨ad,cap,bk,ee,h1,h2,h3⟩:=(hb.ext hxt).at (bx_lt hlt)
   simp only [Value.slice.injEq] at ee
   obtain ⟨rfl,-,rfl⟩:=ee
   iterate 2 (refine Ow.popM rfl ?_;simp only [S0,Nat.reduceEqDiff,e18,e20,ix_ok hlt])
   (refine Ow.hopM rfl rfl ?_;simp only [S0,Nat.reduceEqDiff,h2,h3])
   iterate 2 (refine Ow.popM rfl ?_;simp only [S0,Nat.reduceEqDiff])
   refine Ow.nilM ⟨nofun,?_⟩
   refine Cw.seq (Cw.seq (Cw.region ?_))
   (refine Ow.popM rfl ?_;simp only [S0,Nat.reduceEqDiff])
   refine Ow.nilM ⟨nofun,?_⟩
   have half:∀ E H3 u id,E.get 1=some (.slice (some ad) lb.length cb)→E.get 18=some (.slice (some ad) lb.length cb)→E.get 19=some (.int .i64 (lb.length:Int))→E.get 20=some (.int .i64 (k:Int))→E.get 7=some (.int .i64 (k:Int))→E.get 5=some u→E.get 6=some s→AL.Ext H2 H3→H.n≤id→IsM H3 u (ofN la.length (val la^(val lb % 2^(k+1)))) id →
     Cw (Cx ext) (.seq (.region false [⟨some 29,none,.mov (.tmp 7)⟩,⟨some 30,none,.bin 0 .add (.tmp 29) (.const (.int .i64 1))⟩,⟨some 31,none,.mov (.tmp 1)⟩,⟨some 32,none,.len false (.tmp 31)⟩,⟨some 33,none,.bin 0 .lss (.tmp 30) (.tmp 32)⟩] [])
      (.cond (.tmp 33) (.region false [⟨some 34,none,.mov (.tmp 6)⟩,⟨some 35,none,.mov (.tmp 6)⟩,⟨some 36,none,.call (.func 149) [.tmp 34,.tmp 35]⟩,⟨some 6,none,.mov (.tmp 36)⟩] []) .skip)) E H3 fun c E4 H4=>c=.normal∧(E4.get 1=some (.slice (some ad) lb.length cb)∧E4.get 18=some (.slice (some ad) lb.length cb)∧E4.get 19=some (.int .i64 (lb.length:Int))∧E4.get 20=some (.int .i64 (k:Int)))∧AL.Ext H H4∧(∃ u id,E4.get 5=some u∧H.n≤id∧IsM H4 u (ofN la.length (val la^(val lb % 2^(k+1)))) id)∧(∃ s,E4.get 6=some s∧(k+1<lb.length→IsB H4 s (ofN la.length (val la^2^(k+1))))):=by
    intro E H3 u id g1 g18 g19 g20 g7 g5 g6 hx3 hid hu
    refine Cw.seq (Cw.region ?_)
    by_cases hl2:k+1<lb.length
    ·iterate 5 (refine Ow.popM rfl ?_;simp only [S0,Nat.reduceEqDiff,g7,g1,fw_succ (show k<2^62 by omega),lt_true hl2])
     refine Ow.nilM ⟨nofun,?_⟩
     refine Cw.cond (t:=true) (by simp only [S0,Nat.reduceEqDiff]) ?_
     refine Cw.region ?_
     iterate 2 (refine Ow.popM rfl ?_;simp only [S0,Nat.reduceEqDiff,g6])
     have hs3:=hs.ext hx3
     refine Ow.callE (k:=149) (fs:=[]) (cs:=[]) (vs:=[s,s]) rfl rfl (by simp only [S0,Nat.reduceEqDiff]) (mul_any hx hs3.wl hs3.wl (by rw [ofN_length];exact hl)) ?_
     rintro v H4 w hx4 ⟨id4,hid4,hv⟩
     (refine Ow.popM rfl ?_;simp only [S0,Nat.reduceEqDiff])
     refine Ow.nilM ⟨nofun,trivial,?_,(hxt.trans hx3).trans hx4,⟨u,id,?_,hid,?_⟩,v,?_,fun _=>?_⟩
     ·simp only [S0,Nat.reduceEqDiff,g1,g18,g19,g20,and_self]
     ·simp only [S0,Nat.reduceEqDiff,g5]
     ·obtain ⟨q1,q2,q3⟩:=hu
      exact ⟨q1,Nat.lt_of_lt_of_le q2 hx4.n,by rw [hx4.get _ q2];exact q3⟩
     ·simp only [S0,Nat.reduceEqDiff]
     ·have:=hv.isB
      rw [ofN_length,val_ofN,ofN_mul,←Nat.pow_add] at this
      rw [show 2^(k+1)=2^k+2^k by rw [Nat.pow_succ];omega]
      exact this
    ·iterate 5 (refine Ow.popM rfl ?_;simp only [S0,Nat.reduceEqDiff,g7,g1,fw_succ (show k<2^62 by omega),lt_false hl2])
     refine Ow.nilM ⟨nofun,?_⟩
     refine Cw.cond (t:=false) (by simp only [S0,Nat.reduceEqDiff]) ?_
     refine Cw.skip ⟨rfl,?_,hxt.trans hx3,⟨u,id,?_,hid,hu⟩,s,?_,fun h=>absurd h hl2⟩
     ·simp only [S0,Nat.reduceEqDiff,g1,g18,g19,g20,and_self]
     ·simp only [S0,Nat.reduceEqDiff,g5]
     ·simp only [S0,Nat.reduceEqDiff,g6]
   have hstep:=mod_step (B:=val lb) (k:=k)
   rw [val_bit] at hstep
   have fin:∀ (c:Ctl) (E4:Env) (H4:AH),(c=.normal∧(E4.get 1=some (.slice (some ad) lb.length cb)∧E4.get 18=some (.slice (some ad) lb.length cb)∧E4.get 19=some (.int .i64 (lb.length:Int))∧E4.get 20=some (.int .i64 (k:Int)))∧AL.Ext H H4∧(∃ u id,E4.get 5=some u∧H.n≤id∧IsM H4 u (ofN la.length (val la^(val lb % 2^(k+1)))) id)∧(∃ s,E4.get 6=some s∧(k+1<lb.length→IsB H4 s (ofN la.length (val la^2^(k+1)))))) →
     c=.normal∧Cw (Cx ext) (.region false [⟨some 37,none,.bin 0 .add (.tmp 20) (.const (.int .i64 1))⟩,⟨some 20,none,.mov (.tmp 37)⟩] []) E4 H4 fun c E5 H5=>c=.normal∧k<lb.length∧(E5.get 1=some (.slice (some ad) lb.length cb)∧E5.get 18=some (.slice (some ad) lb.length cb)∧E5.get 19=some (.int .i64 (lb.length:Int))∧E5.get 20=some (.int .i64 ((k+1:Nat):Int)))∧AL.Ext H H5∧(∃ u id,E5.get 5=some u∧H.n≤id∧IsM H5 u (ofN la.length (val la^(val lb % 2^(k+1)))) id)∧(∃ s,E5.get 6=some s∧(k+1<lb.length→IsB H5 s (ofN la.length (val la^2^(k+1))))):=by
    rintro c E4 H4 ⟨rfl,⟨g1,g18,g19,g20⟩,gx,⟨u,id,g5,gid,gu⟩,s,g6,gs⟩
    refine ⟨rfl,Cw.region ?_⟩
    iterate 2 (refine Ow.popM rfl ?_;simp only [S0,Nat.reduceEqDiff,g20,fw_succ (show k<2^62 by omega)])
    refine Ow.nilM ⟨nofun,trivial,hlt,?_,gx,⟨u,id,?_,gid,gu⟩,s,?_,gs⟩
    ·simp only [S0,Nat.reduceEqDiff,g1,g18,g19,and_self]
    ·simp only [S0,Nat.reduceEqDiff,g5]
    ·simp only [S0,Nat.reduceEqDiff,g6]
   cases hbit:bx lb k with
   | true=>
     rw [hbit] at hstep
     refine Cw.cond (t:=true) (by simp only [S0,Nat.reduceEqDiff,hbit]) ?_
     refine Cw.region ?_
     iterate 2 (refine Ow.popM rfl ?_;simp only [S0,Nat.reduceEqDiff,e5,e6])
     refine Ow.callE (k:=149) (fs:=[]) (cs:=[]) (vs:=[u,s]) rfl rfl (by simp only [S0,Nat.reduceEqDiff]) (mul_any hx hu.isB.wl hs.wl (by rw [ofN_length];exact hl)) ?_
     rintro v H4 w hx4 ⟨id4,hid4,hv⟩
     (refine Ow.popM rfl ?_;simp only [S0,Nat.reduceEqDiff])
     refine Ow.nilM ⟨nofun,?_⟩
     rw [ofN_length,val_ofN,val_ofN,ofN_mul,←Nat.pow_add] at hv
     have e:val lb % 2^(k+1)=val lb % 2^k+2^k:=by rw [hstep,if_pos rfl]
     rw [←e] at hv
     refine (half _ _ v id4 ?_ ?_ ?_ ?_ ?_ ?_ ?_ hx4 ?_ hv).mono fun c E5 H5 hq=>?_
     ·simp only [S0,Nat.reduceEqDiff,e1]
     ·simp only [S0,Nat.reduceEqDiff,e18]
     ·simp only [S0,Nat.reduceEqDiff,e19]
     ·simp only [S0,Nat.reduceEqDiff,e20]
     ·simp only [S0,Nat.reduceEqDiff]
     ·simp only [S0,Nat.reduceEqDiff]
     ·simp only [S0,Nat.reduceEqDiff,e6]
     ·have:=hxt.n
      have:H2.n≤id4:=hid4
      omega
     ·obtain ⟨hc,hq2⟩:=fin _ _ _ hq
      subst hc
      refine hq2.mono fun c E6 H6 hr=>?_
      obtain ⟨rfl,hr⟩:=hr
      exact hr
   | false=>
     rw [hbit] at hstep
     refine Cw.cond (t:=false) (by simp only [S0,Nat.reduceEqDiff,hbit]) ?_
     refine Cw.skip ?_
     have e:val lb % 2^(k+1)=val lb % 2^k:=by rw [hstep];simp
     rw [←e] at hu
     refine (half _ _ u id ?_ ?_ ?_ ?_ ?_ ?_ ?_ (AL.Ext.refl _) hid hu).mono fun c E5 H5 hq=>?_
     ·simp only [S0,Nat.reduceEqDiff,e1]
     ·simp only [S0,Nat.reduceEqDiff,e18]
     ·simp only [S0,Nat.reduceEqDiff,e19]
     ·simp only [S0,Nat.reduceEqDiff,e20]
     ·simp only [S0,Nat.reduceEqDiff]
     ·simp only [S0,Nat.reduceEqDiff,e5]
     ·simp only [S0,Nat.reduceEqDiff,e6]
     ·obtain ⟨hc,hq2⟩:=fin _ _ _ hq
      subst hc
      refine hq2.mono fun c E6 H6 hr=>?_
      obtain ⟨rfl,hr⟩:=hr
      exact hr
  ·obtain rfl:k=lb.length:=by omega
   (refine Ow.popM rfl ?_;simp only [S0,Nat.reduceEqDiff,e19,e20,lt_false (Nat.lt_irrefl lb.length)])
   refine Ow.nilM ⟨nofun,?_⟩
   refine Cw.seq (Cw.cond (t:=false) (by simp only [S0,Nat.reduceEqDiff]) ?_)
   refine Cw.exit ?_
   show Cw _ _ _ _ _
   refine Cw.seq (Cw.region ?_)
   iterate 2 (refine Ow.popM rfl ?_;simp only [S0,Nat.reduceEqDiff,e5])
   refine Ow.nilM ⟨nofun,?_⟩
   refine Cw.ret ?_
   simp only [Then,InBlock,Rnd,FnPost,resOf,tupled,S0,Nat.reduceEqDiff]
   rw [Nat.mod_eq_of_lt (val_lt lb)] at hu
   exact ⟨hxt,id,hid,hu⟩
 refine Cw.seq (Cw.seq (Cw.region ?_))
 iterate 2 (refine Ow.popM rfl ?_;simp only [S0,Nat.reduceEqDiff])
 by_cases h0:0<la.length
 ·(refine Ow.popM rfl ?_;simp only [S0,Nat.reduceEqDiff,gt0_true h0])
  refine Ow.nilM ⟨nofun,?_⟩
  refine Cw.cond (t:=true) (by simp only [S0,Nat.reduceEqDiff]) ?_
  refine Cw.region ?_
  (refine Ow.popM rfl ?_;simp only [S0,Nat.reduceEqDiff])
  (refine Ow.popM rfl ?_;simp only [S0,Nat.reduceEqDiff,show ((0:Int)≤0∧(0:Int)<(la.length:Int))=True from eq_true ⟨by omega,by omega⟩,show Int.toNat 0=0 from rfl])
  refine Ow.store1 (b:=true) (ad:=⟨H.n,0,none⟩) (v:=.bool true) (bk:=⟨(List.replicate la.length false).map .bool,0⟩) rfl (by simp only [S0,Nat.reduceEqDiff]) rfl rfl rfl (T.get_set_self _ _ _) (by simp) (by simpa using h0) ?_ ?_
  ·show Nat.blt (min (H.n+1) H.n) (H.n+1)=true
   rw [Nat.min_eq_right (Nat.le_succ _)];exact Nat.ble_eq_true_of_le (Nat.le_refl _)
  ·intro wl hwl
   refine Ow.nil ⟨nofun,?_⟩
   refine rest _ _ ?_ ?_ ?_ ⟨Nat.le_succ _,fun i hi=>?_,?_⟩ ⟨by rw [ofN_length],Nat.lt_succ_self _,?_⟩
   ·simp only [S0,Nat.reduceEqDiff]
   ·simp only [S0,Nat.reduceEqDiff]
   ·simp only [S0,Nat.reduceEqDiff]
   ·show ((H.t.set H.n _).set H.n _).get i=_
    rw [T.get_set_ne _ _ (by omega),T.get_set_ne _ _ (by omega)]
   ·show min H.wl H.n≤wl
    rw [hwl]
    show _≤min H.wl (min (H.n+1) H.n)
    omega
   ·show ((H.t.set H.n _).set H.n _).get H.n=_
    rw [T.get_set_self,←one_list h0,List.map_set]
 ·have hz:la.length=0:=by omega
  have c0:decide ((la.length:Int) > 0)=false:=decide_eq_false (by omega)
  (refine Ow.popM rfl ?_;simp only [S0,Nat.reduceEqDiff,c0])
  refine Ow.nilM ⟨nofun,?_⟩
  refine Cw.cond (t:=false) (by simp only [S0,Nat.reduceEqDiff]) ?_
  refine Cw.skip ?_
  refine rest _ _ ?_ ?_ ?_ hx1 ⟨by rw [ofN_length],Nat.lt_succ_self _,?_⟩
  ·simp only [S0,Nat.reduceEqDiff]
  ·simp only [S0,Nat.reduceEqDiff]
  ·simp only [S0,Nat.reduceEqDiff]
  ·rw [hz];exact T.get_set_self _ _ _
end
section
open Go Go.AL
variable {ext:Nat→Option (List Value→AH→Option (Value×AH))}
theorem Ow.callP {C:Ctx} {E:Env} {H:AH} {d:Option Nat} {g:Option (Nat×Bool)} {f:Operand} {args:List Operand} {os:List IOper} {k:Nat} {vs:List Value} {w:Value} {Q:Env→AH→List (Bool×Bool)→Prop} (hg:wanted E g=some true)
  (hf:ev E f=some (.func (.func k) ⟨[]⟩ ⟨[]⟩)) (ha:evs E args=some vs) (hc:Run C k vs { H with wl:=H.n } fun v H1=>H1={ H with wl:=H.n }∧v=w)
  (h:∀ wl,AL.Ext H { H with wl:=wl }→Ow C os (put E d w) { H with wl:=wl } fun E' H' fl=>Q E' H' ((true,false)::fl)):Ow C (⟨d,g,.call f args⟩::os) E H Q:=by
 refine Ow.callE (k:=k) (fs:=[]) (cs:=[]) (vs:=vs) (R:=fun r H'=>H'={ H with wl:=H.n }∧r=w) hg hf ha ?_ ?_
 ·rw [List.nil_append,List.append_nil]
  exact hc.mono fun r H' hr=>⟨by rw [hr.1];exact AL.Ext.refl _,hr⟩
 ·rintro v H1 wl hx ⟨rfl,rfl⟩
  exact h wl hx
theorem fw_nat {a:Nat} (h:a<2^63):fwrap .i64 (a:Int)=(a:Int):=by
 unfold fwrap
 have:inKind .i64 (a:Int)=true:=by
  show Nat.blt a 9223372036854775808=true
  exact Nat.ble_eq_true_of_le (by omega)
 rw [this];rfl
end
section
open Go Go.AL
variable {ext:Nat→Option (List Value→AH→Option (Value×AH))}
theorem val_lt' {l:List Bool} {k:Nat} (h:l.length≤k):val l<2^k:=Nat.lt_of_lt_of_le (val_lt l) (Nat.pow_le_pow_right (by decide) h)
end
section
open Go Go.AL
variable {ext:Nat→Option (List Value→AH→Option (Value×AH))}
theorem fw_int {x:Int} (h1:-(2^62)≤x) (h2:x<2^62):fwrap .i64 x=x:=by
 rw [fwrap_eq]
 unfold IntKind.wrap
 simp only [show IntKind.bits .i64=64 from rfl,show IntKind.signed .i64=true from rfl,Bool.true_and,decide_eq_true_eq,Nat.reduceSub]
 split<;>omega
theorem div_step (B j:Nat):B / 2^j=2*(B / 2^(j+1))+(B.testBit j).toNat:=by
 rw [Nat.testBit_eq_decide_div_mod_eq,Nat.pow_succ,←Nat.div_div_eq_div_mul]
 have h:=Nat.div_add_mod (B / 2^j) 2
 rcases Nat.mod_two_eq_zero_or_one (B / 2^j) with h1 | h1<;>rw [h1] at h ⊢<;>simp<;>omega
theorem ge0_neg {x:Int} (h:x<0):decide (x≥0)=false:=decide_eq_false (by omega)
end
section
open Go Go.AL
variable {ext:Nat→Option (List Value→AH→Option (Value×AH))}
theorem negative_any (hx:Ext0 ext) {H:AH} {v:Value} {l:List Bool} (hv:IsB H v l) (hl:l.length<2^36):Run (Cx ext) 174 [v] H fun r H'=>H'=H∧r=.bool (bx l (l.length-1)):=by
 refine Run.intro (fi:=IR.fi174) (hx 174 (by decide)) (by kernel_rfl) ?_
 unfold IR.fi174
 simp only [envOf_cons,envOf_nil]
 refine Cw.seq (Cw.region ?_)
 (refine Ow.popM rfl ?_;simp only [S0,Nat.reduceEqDiff])
 refine Ow.nilM ⟨nofun,?_⟩
 refine Cw.seq (Cw.region ?_)
 by_cases h0:0<l.length
 ·obtain ⟨ad,cap,bk,rfl,h1,h2,h3⟩:=hv.at (bx_lt (show l.length-1<l.length by omega))
  have e:(l.length:Int)-1=((l.length-1:Nat):Int):=by omega
  iterate 9 (refine Ow.popM rfl ?_;simp only [S0,Nat.reduceEqDiff,gt0_true h0,e,fw_nat (show l.length-1<2^63 by omega),ix_ok (show l.length-1<l.length by omega)])
  (refine Ow.hopM rfl rfl ?_;simp only [S0,Nat.reduceEqDiff,h2,h3])
  iterate 2 (refine Ow.popM rfl ?_;simp only [S0,Nat.reduceEqDiff])
  refine Ow.nilM ⟨nofun,?_⟩
  refine Cw.ret ?_
  simp only [Then,InBlock,Rnd,FnPost,resOf,tupled,S0,Nat.reduceEqDiff,and_self]
 ·have hz:l=[]:=List.length_eq_zero_iff.1 (by omega)
  subst hz
  obtain ⟨a,cap,rfl⟩:=hv.shape
  iterate 4 (refine Ow.popM rfl ?_;simp only [S0,Nat.reduceEqDiff,show decide ((([]:List Bool).length:Int) > 0)=false from rfl])
  iterate 6 refine Ow.pass (by simp only [S0,Nat.reduceEqDiff]) ?_
  iterate 2 (refine Ow.popM rfl ?_;simp only [S0,Nat.reduceEqDiff])
  refine Ow.nilM ⟨nofun,?_⟩
  refine Cw.ret ?_
  simp only [Then,InBlock,Rnd,FnPost,resOf,tupled,S0,Nat.reduceEqDiff,true_and]
  rfl
def cmpN (A B:Nat):Int:=if A<B then -1 else if A=B then 0 else 1
theorem max_nat (a b:Nat):(if (b:Int) > (a:Int) then (b:Int) else (a:Int))=((max a b:Nat):Int):=by split<;>omega
theorem div_lt {A B j:Nat} (h:A / 2^j<B / 2^j):A<B:=by
 rcases Nat.lt_or_ge A B with h1 | h1
 ·exact h1
 ·exact absurd (Nat.div_le_div_right (c:=2^j) h1) (by omega)
theorem cmp_any (hx:Ext0 ext) {H:AH} {va vb:Value} {la lb:List Bool} (ha:IsB H va la) (hb:IsB H vb lb) (hla:la.length<2^36) (hlb:lb.length<2^36) :
  Run (Cx ext) 172 [va,vb] H fun r H'=>AL.Ext H H'∧r=.int .i64 (cmpN (val la) (val lb)):=by
 refine Run.intro (fi:=IR.fi172) (hx 172 (by decide)) (by kernel_rfl) ?_
 unfold IR.fi172
 simp only [envOf_cons,envOf_nil]
 obtain ⟨aa,ca,ea⟩:=ha.shape
 obtain ⟨ab,cb,eb⟩:=hb.shape
 subst ea
 subst eb
 refine Cw.seq (Cw.region ?_)
 (refine Ow.popM rfl ?_;simp only [S0,Nat.reduceEqDiff])
 refine Ow.nilM ⟨nofun,?_⟩
 refine Cw.seq (Cw.seq (Cw.region ?_))
 have hM:max la.length lb.length<2^36:=by omega
 have hA:val la<2^max la.length lb.length:=val_lt' (Nat.le_max_left _ _)
 have hB:val lb<2^max la.length lb.length:=val_lt' (Nat.le_max_right _ _)
 iterate 5 (refine Ow.popM rfl ?_;simp only [S0,Nat.reduceEqDiff,AL.foldV,amax2,max_nat])
 generalize max la.length lb.length=M at *
 iterate 2 (refine Ow.popM rfl ?_;simp only [S0,Nat.reduceEqDiff,fw_int (show -(2^62)≤(M:Int)-1 by omega) (by omega)])
 refine Ow.nilM ⟨nofun,?_⟩
 refine Cw.block (Cw.loopI M (fun k E H2=>(E.get 0=some (.slice aa la.length ca)∧E.get 1=some (.slice ab lb.length cb)∧E.get 5=some (.int .i64 ((M:Int)-1-(k:Int))))∧AL.Ext H H2∧val la / 2^(M-k)=val lb / 2^(M-k)) ⟨?_,AL.Ext.refl _,?_⟩ ?_)
 ·simp only [S0,Nat.reduceEqDiff];exact ⟨trivial,trivial,by simp⟩
 ·rw [Nat.sub_zero,Nat.div_eq_of_lt hA,Nat.div_eq_of_lt hB]
 rintro k E H2 hk ⟨⟨e0,e1,e5⟩,hxt,heq⟩
 refine Cw.seq (Cw.seq (Cw.region ?_))
 by_cases hlt:k<M
 ·have hi:((M:Int)-1-(k:Int))=((M-(k+1):Nat):Int):=by omega
  have hsa:=div_step (val la) (M-(k+1))
  have hsb:=div_step (val lb) (M-(k+1))
  rw [show M-(k+1)+1=M-k by omega,val_bit] at hsa hsb
  rw [hi] at e5
  have hjM:M-(k+1)<2^36:=by omega
  have hj1:((M-(k+1):Nat):Int)-1=(M:Int)-1-((k+1:Nat):Int):=by omega
  generalize hj:M-(k+1)=j at *
  iterate 2 (refine Ow.popM rfl ?_;simp only [S0,Nat.reduceEqDiff,e5,ge0_true j])
  refine Ow.nilM ⟨nofun,?_⟩
  refine Cw.cond (t:=true) (by simp only [S0,Nat.reduceEqDiff]) ?_
  refine Cw.skip ?_
  refine Cw.seq (Cw.block (Cw.seq (Cw.region ?_)))
  iterate 2 (refine Ow.popM rfl ?_;simp only [S0,Nat.reduceEqDiff,e0,e5])
  refine Ow.callP (k:=169) (vs:=[.slice aa la.length ca,.int .i64 j]) rfl rfl (by simp only [S0,Nat.reduceEqDiff]) (at_any hx (ha.ext hxt).wl) ?_
  intro w3 hx3
  iterate 2 (refine Ow.popM rfl ?_;simp only [S0,Nat.reduceEqDiff,e1,e5])
  refine Ow.callP (k:=169) (vs:=[.slice ab lb.length cb,.int .i64 j]) rfl rfl (by simp only [S0,Nat.reduceEqDiff]) (at_any hx ((hb.ext hxt).ext hx3).wl) ?_
  intro w4 hx4
  have hx24:=(hxt.trans hx3).trans hx4
  iterate 2 (refine Ow.popM rfl ?_;simp only [S0,Nat.reduceEqDiff])
  refine Ow.nilM ⟨nofun,?_⟩
  refine Cw.seq (Cw.region ?_)
  iterate 3 (refine Ow.popM rfl ?_;simp only [S0,Nat.reduceEqDiff])
  refine Ow.nilM ⟨nofun,?_⟩
  cases hba:bx la j<;>cases hbb:bx lb j
  ·refine Cw.cond (t:=false) (by simp only [S0,Nat.reduceEqDiff,hba,hbb,bne_self_eq_false]) ?_
   refine Cw.skip ?_
   show Cw _ _ _ _ _
   refine Cw.region ?_
   iterate 3 (refine Ow.popM rfl ?_;simp only [S0,Nat.reduceEqDiff,e5,fw_int (show -(2^62)≤(j:Int)-1 by omega) (by omega)])
   refine Ow.nilM ⟨nofun,hlt,?_,hx24,?_⟩
   ·simp only [S0,Nat.reduceEqDiff,e0,e1,hj1,and_self]
   ·show val la / 2^(M-(k+1))=val lb / 2^(M-(k+1))
    rw [hj,hsa,hsb,heq,hba,hbb]
  ·refine Cw.cond (t:=true) (by simp only [S0,Nat.reduceEqDiff,hba,hbb];rfl) ?_
   refine Cw.seq (Cw.seq (Cw.region ?_))
   (refine Ow.popM rfl ?_;simp only [S0,Nat.reduceEqDiff,hba])
   refine Ow.nilM ⟨nofun,?_⟩
   refine Cw.cond (t:=false) (by simp only [S0,Nat.reduceEqDiff]) ?_
   refine Cw.skip ?_
   show Cw _ _ _ _ _
   refine Cw.seq (Cw.region ?_)
   (refine Ow.popM rfl ?_;simp only [S0,Nat.reduceEqDiff])
   refine Ow.nilM ⟨nofun,?_⟩
   refine Cw.ret ?_
   simp only [Then,InBlock,Rnd,FnPost,resOf,tupled,S0,Nat.reduceEqDiff]
   have:val la<val lb:=div_lt (j:=j) (by rw [hsa,hsb,heq,hba,hbb];simp)
   refine ⟨hx24,?_⟩
   unfold cmpN
   rw [if_pos this]
  ·refine Cw.cond (t:=true) (by simp only [S0,Nat.reduceEqDiff,hba,hbb];rfl) ?_
   refine Cw.seq (Cw.seq (Cw.region ?_))
   (refine Ow.popM rfl ?_;simp only [S0,Nat.reduceEqDiff,hba])
   refine Ow.nilM ⟨nofun,?_⟩
   refine Cw.cond (t:=true) (by simp only [S0,Nat.reduceEqDiff]) ?_
   refine Cw.seq (Cw.region ?_)
   (refine Ow.popM rfl ?_;simp only [S0,Nat.reduceEqDiff])
   refine Ow.nilM ⟨nofun,?_⟩
   refine Cw.ret ?_
   simp only [Then,InBlock,Rnd,FnPost,resOf,tupled,S0,Nat.reduceEqDiff]
   have:val lb<val la:=div_lt (j:=j) (by rw [hsa,hsb,heq,hba,hbb];simp)
   refine ⟨hx24,?_⟩
   unfold cmpN
   rw [if_neg (by omega),if_neg (by omega)]
  ·refine Cw.cond (t:=false) (by simp only [S0,Nat.reduceEqDiff,hba,hbb,bne_self_eq_false]) ?_
   refine Cw.skip ?_
   show Cw _ _ _ _ _
   refine Cw.region ?_
   iterate 3 (refine Ow.popM rfl ?_;simp only [S0,Nat.reduceEqDiff,e5,fw_int (show -(2^62)≤(j:Int)-1 by omega) (by omega)])
   refine Ow.nilM ⟨nofun,hlt,?_,hx24,?_⟩
   ·simp only [S0,Nat.reduceEqDiff,e0,e1,hj1,and_self]
   ·show val la / 2^(M-(k+1))=val lb / 2^(M-(k+1))
    rw [hj,hsa,hsb,heq,hba,hbb]
 ·obtain rfl:k=M:=by omega
  iterate 2 (refine Ow.popM rfl ?_;simp only [S0,Nat.reduceEqDiff,e5,ge0_neg (show (k:Int)-1-(k:Int)<0 by omega)])
  refine Ow.nilM ⟨nofun,?_⟩
  refine Cw.cond (t:=false) (by simp only [S0,Nat.reduceEqDiff]) ?_
  refine Cw.exit ?_
  show Cw _ _ _ _ _
  refine Cw.seq (Cw.region ?_)
  (refine Ow.popM rfl ?_;simp only [S0,Nat.reduceEqDiff])
  refine Ow.nilM ⟨nofun,?_⟩
  refine Cw.ret ?_
  simp only [Then,InBlock,Rnd,FnPost,resOf,tupled,S0,Nat.reduceEqDiff]
  rw [Nat.sub_self,Nat.pow_zero,Nat.div_one,Nat.div_one] at heq
  refine ⟨hxt,?_⟩
  unfold cmpN
  rw [if_neg (by omega),if_pos heq]
theorem zero_any (hx:Ext0 ext) {H:AH} {v:Value} {l:List Bool} (hv:IsB H v l) (hl:l.length<2^36) :
  Run (Cx ext) 197 [v] H fun r H'=>AL.Ext H H'∧r=.bool (decide (val l=0)):=by
 refine Run.intro (fi:=IR.fi197) (hx 197 (by decide)) (by kernel_rfl) ?_
 unfold IR.fi197
 simp only [envOf_cons,envOf_nil]
 refine Cw.seq (Cw.region ?_)
 (refine Ow.popM rfl ?_;simp only [S0,Nat.reduceEqDiff])
 refine Ow.nilM ⟨nofun,?_⟩
 refine Cw.seq (Cw.region ?_)
 (refine Ow.popM rfl ?_;simp only [S0,Nat.reduceEqDiff])
 refine Ow.callE (k:=172) (fs:=[]) (cs:=[]) (vs:=[v,.slice none 0 0]) rfl rfl (by simp only [S0,Nat.reduceEqDiff]) (cmp_any hx hv.wl (IsB.nil _) hl (by decide)) ?_
 rintro r H1 w1 hx1 rfl
 have e:(cmpN (val l) (val []) == 0)=decide (val l=0):=by
  unfold cmpN
  by_cases h:val l=0
  ·rw [h];rfl
  ·rw [if_neg (show ¬ val l<val [] from Nat.not_lt_zero _),if_neg (show ¬ val l=val [] from h)]
   simp [h]
 iterate 2 (refine Ow.popM rfl ?_;simp only [S0,Nat.reduceEqDiff,e])
 refine Ow.nilM ⟨nofun,?_⟩
 refine Cw.ret ?_
 simp only [Then,InBlock,Rnd,FnPost,resOf,tupled,S0,Nat.reduceEqDiff]
 exact ⟨hx1,trivial⟩
end
section
open Go Go.AL
variable {ext:Nat→Option (List Value→AH→Option (Value×AH))}
def shrF (la:List Bool) (s:Nat) (fill:Bool):List Bool:=(List.range la.length).map fun i=>if i+s<la.length then bx la (i+s) else fill
theorem shrF_length (la:List Bool) (s:Nat) (fill:Bool):(shrF la s fill).length=la.length:=by simp [shrF]
end
section
open Go Go.AL
variable {ext:Nat→Option (List Value→AH→Option (Value×AH))}
theorem set_bit0 {n X:Nat} {b:Bool} (h:0<n):(ofN n (2*X)).set 0 b=ofN n (2*X+b.toNat):=by
 apply List.ext_getElem?
 intro i
 rw [List.getElem?_set]
 cases i with
 | zero=>
   rw [if_pos rfl,if_pos (by rw [ofN_length];exact h),ofN_get h,Nat.testBit_zero]
   cases b<;>simp<;>omega
 | succ i=>
   rw [if_neg (by omega)]
   by_cases hi:i+1<n
   ·rw [ofN_get hi,ofN_get hi,Nat.testBit_succ,Nat.testBit_succ]
    have e1:2*X / 2=X:=by omega
    have e2:(2*X+b.toNat) / 2=X:=by cases b<;>simp<;>omega
    rw [e1,e2]
   ·simp [ofN,hi]
theorem set_bitj {n Y j:Nat} (h:j<n):(ofN n (Y*2^(j+1))).set j true=ofN n (Y*2^(j+1)+2^j):=by
 have e0:Y*2^(j+1)=2^j*(2*Y):=by rw [Nat.pow_succ,Nat.mul_comm (2^j) 2,←Nat.mul_assoc,Nat.mul_comm Y 2,Nat.mul_comm]
 have e:Y*2^(j+1)+2^j=2^j*(2*Y+1):=by rw [e0,Nat.mul_add,Nat.mul_one]
 rw [e,e0]
 apply List.ext_getElem?
 intro i
 rw [List.getElem?_set]
 by_cases hij:j=i
 ·subst hij
  rw [if_pos rfl,if_pos (by rw [ofN_length];exact h),ofN_get h,Nat.testBit_two_pow_mul]
  simp
 ·rw [if_neg hij]
  by_cases hi:i<n
  ·rw [ofN_get hi,ofN_get hi,Nat.testBit_two_pow_mul,Nat.testBit_two_pow_mul]
   by_cases hji:j≤i
   ·obtain ⟨d,hd⟩:∃ d,i-j=d+1:=⟨i-j-1,by omega⟩
    rw [hd,Nat.testBit_succ,Nat.testBit_succ,show 2*Y / 2=Y by omega,show (2*Y+1) / 2=Y by omega]
   ·simp [hji]
  ·simp [ofN,hi]
theorem div_round {P B a:Nat} (hB:0<B) (ha:a≤1):(2*P+a) / B=2*(P / B)+(if B≤2*(P % B)+a then 1 else 0)∧(2*P+a) % B=(if B≤2*(P % B)+a then 2*(P % B)+a-B else 2*(P % B)+a):=by
 have h1:=Nat.div_add_mod P B
 have h2:=Nat.mod_lt P hB
 generalize P / B=q at *
 generalize P % B=r at *
 by_cases h:B≤2*r+a
 ·rw [if_pos h,if_pos h]
  have e3:B*(2*q+1)=2*(B*q)+B:=by rw [Nat.mul_add,Nat.mul_one,Nat.mul_left_comm]
  have e:2*P+a=(2*r+a-B)+B*(2*q+1):=by rw [e3,←h1];omega
  rw [e,Nat.add_mul_div_left _ _ hB,Nat.add_mul_mod_self_left,Nat.div_eq_of_lt (by omega),Nat.mod_eq_of_lt (by omega)]
  omega
 ·rw [if_neg h,if_neg h]
  have e3:B*(2*q)=2*(B*q):=Nat.mul_left_comm _ _ _
  have e:2*P+a=(2*r+a)+B*(2*q):=by rw [e3,←h1];omega
  rw [e,Nat.add_mul_div_left _ _ hB,Nat.add_mul_mod_self_left,Nat.div_eq_of_lt (by omega),Nat.mod_eq_of_lt (by omega)]
  omega
theorem IsM_ext {H H':AH} {v:Value} {l:List Bool} {id:Nat} (h:IsM H v l id) (he:AL.Ext H H'):IsM H' v l id:=by
 obtain ⟨h1,h2,h3⟩:=h
 exact ⟨h1,Nat.lt_of_lt_of_le h2 he.n,by rw [he.get _ h2];exact h3⟩
theorem cmp_ge {A B:Nat}:decide (cmpN A B≥0)=decide (B≤A):=by
 unfold cmpN
 by_cases h:A<B
 ·rw [if_pos h,decide_eq_false (show ¬ B≤A by omega)];rfl
 ·rw [if_neg h,decide_eq_true (show B≤A by omega)]
  by_cases h2:A=B
  ·rw [if_pos h2];rfl
  ·rw [if_neg h2];rfl
theorem Cw.genH {C:Ctx} {ic:IC} {E:Env} {H:AH} {Q:Ctl→Env→AH→Prop} (P:AH→Prop) (h:P H) (k:∀ H,P H→Cw C ic E H Q):Cw C ic E H Q:=k H h
theorem cut_3 {R L id:Nat} (h:L≤R) (hR:R<2^36):aslice 1 (some ⟨id,0,none⟩) R R none (some (.int .i64 (L:Int))) (some (.int .i64 (L:Int)))=some (.slice (some ⟨id,0,none⟩) L L):=by
 have e1:(0:Int)≤(L:Int)∧(L:Int)≤(R:Int):=by omega
 have e2:(0:Int)≤(L:Int)∧(L:Int)≤(L:Int):=by omega
 have e3:R.beq UC=false:=beq_false (by unfold UC;omega)
 have e4:Nat.ble UC L=false:=ble_false (by unfold UC;omega)
 simp only [aslice,asNat,optNat,e1,e2,and_self,if_true,Int.toNat_natCast,e3,e4,Bool.false_and,Bool.or_self,cond_false,Option.map_some,addOff,Nat.zero_mul,Nat.add_zero,Nat.sub_zero]
 cases L.beq 0<;>rfl
theorem isR_cut {H0 H:AH} {R L X id:Nat} (h:IsM H (.slice (some ⟨id,0,none⟩) R R) (ofN R X) id) (h0:H0.n≤id) (hl:L≤R):IsR H0 H (.slice (some ⟨id,0,none⟩) L L) (ofN L X):=by
 obtain ⟨-,h2,h3⟩:=h
 refine .inr ⟨id,0,L,_,by rw [ofN_length],.inr (by rw [ofN_length];exact Nat.le_refl _),h0,h2,h3,by simp,by simp [ofN_length];exact hl,fun i b hb=>?_,fun c hc=>?_⟩
 ·have hi:i<L:=by have:=(List.getElem?_eq_some_iff.1 hb).1;rwa [ofN_length] at this
  rw [ofN_get hi] at hb
  show ((ofN R X).map Value.bool)[0+i]?=_
  rw [Nat.zero_add,List.getElem?_map,ofN_get (by omega:i<R),←Option.some.inj hb]
  rfl
 ·obtain ⟨b,_,rfl⟩:=List.mem_map.1 hc
  exact ⟨b,rfl⟩
theorem divmod_any (hx:Ext0 ext) {H:AH} {va vb:Value} {la lb:List Bool} (ha:IsB H va la) (hb:IsB H vb lb) (hla:la.length<2^34) (hlb:lb.length<2^34) :
  Run (Cx ext) 170 [va,vb] H fun r H'=>AL.Ext H H'∧if val lb=0 then r=.tuple ⟨[.slice none 0 0,.slice none 0 0,.int .i64 7]⟩ else
   ∃ u w,r=.tuple ⟨[u,w,.int .i64 0]⟩∧(∃ id,H.n≤id∧IsM H' u (ofN la.length (val la / val lb)) id)∧IsR H H' w (ofN la.length (val la % val lb)):=by
 refine Run.intro (fi:=IR.fi170) (hx 170 (by decide)) (by kernel_rfl) ?_
 unfold IR.fi170
 simp only [envOf_cons,envOf_nil]
 obtain ⟨aa,ca,ea⟩:=ha.shape
 obtain ⟨ab,cb,eb⟩:=hb.shape
 subst ea
 subst eb
 refine Cw.seq (Cw.region ?_)
 iterate 3 (refine Ow.popM rfl ?_;simp only [S0,Nat.reduceEqDiff])
 refine Ow.nilM ⟨nofun,?_⟩
 refine Cw.seq (Cw.seq (Cw.region ?_))
 (refine Ow.popM rfl ?_;simp only [S0,Nat.reduceEqDiff])
 refine Ow.callE (k:=197) (fs:=[]) (cs:=[]) (vs:=[.slice ab lb.length cb]) rfl rfl (by simp only [S0,Nat.reduceEqDiff]) (zero_any hx hb.wl (by omega)) ?_
 rintro _ H0 w0 hx0 rfl
 refine Ow.nilM ⟨nofun,?_⟩
 by_cases hz:val lb=0
 ·refine Cw.cond (t:=true) (by simp only [S0,Nat.reduceEqDiff,hz,decide_true]) ?_
  refine Cw.seq (Cw.region ?_)
  iterate 3 (refine Ow.popM rfl ?_;simp only [S0,Nat.reduceEqDiff])
  refine Ow.nilM ⟨nofun,?_⟩
  refine Cw.ret ?_
  simp only [Then,InBlock,Rnd,FnPost,resOf,tupled,S0,Nat.reduceEqDiff]
  refine ⟨hx0,?_⟩
  rw [if_pos hz]
  exact trivial
 have hB:0<val lb:=Nat.pos_of_ne_zero hz
 refine Cw.cond (t:=false) (by simp only [S0,Nat.reduceEqDiff,hz,decide_false]) ?_
 refine Cw.skip ?_
 refine Cw.seq (Cw.region ?_)
 iterate 2 (refine Ow.popM rfl ?_;simp only [S0,Nat.reduceEqDiff])
 refine Ow.makeB (k:=.i64) (n:=la.length) rfl (by simp only [S0,Nat.reduceEqDiff]) (by omega) ?_
 have hx1:=hx0.new (⟨(List.replicate la.length false).map .bool,0⟩:Blk)
 have hq1:IsM (AH.new { H0 with wl:=w0 } ⟨(List.replicate la.length false).map .bool,0⟩) (.slice (some ⟨H0.n,0,none⟩) la.length la.length) (List.replicate la.length false) H0.n:=⟨by rw [List.length_replicate],Nat.lt_succ_self _,T.get_set_self _ _ _⟩
 have hn0:H.n≤H0.n:=hx0.n
 (refine Ow.popM rfl ?_;simp only [S0,Nat.reduceEqDiff])
 refine Ow.nilM ⟨nofun,?_⟩
 refine Cw.seq (Cw.region ?_)
 iterate 5 (refine Ow.popM rfl ?_;simp only [S0,Nat.reduceEqDiff,AL.foldV,amax2,max_nat])
 have hR1:la.length<max la.length lb.length+1:=by omega
 have hR2:lb.length<max la.length lb.length+1:=by omega
 have hR3:max la.length lb.length+1<2^35:=by omega
 have hfs:fwrap .i64 (((max la.length lb.length:Nat):Int)+1)=((max la.length lb.length+1:Nat):Int):=fw_succ (by omega)
 (refine Ow.popM rfl ?_;simp only [S0,Nat.reduceEqDiff,hfs])
 generalize max la.length lb.length+1=R at *
 have hzl:List.replicate la.length false=ofN la.length 0:=by have:=big_zero la.length la.length 0 (Nat.le_refl _);rwa [Nat.zero_mul] at this
 have hzr:List.replicate R false=ofN R 0:=by have:=big_zero R R 0 (Nat.le_refl _);rwa [Nat.zero_mul] at this
 rw [hzl] at hq1 hx1
 rw [hzl]
 have hiq:H.n≤H0.n:=hn0
 generalize AH.new { H0 with wl:=w0 } ⟨(ofN la.length 0).map .bool,0⟩=Ha at *
 generalize H0.n=iq at *
 have hAL:=val_lt la
 have hBM:=val_lt lb
 have hBR:2*val lb≤2^R:=by
  have h1:2^(lb.length+1)≤2^R:=Nat.pow_le_pow_right (by decide) hR2
  rw [Nat.pow_succ] at h1
  omega
 generalize hA:val la=A at *
 generalize hvb:val lb=B at *
 refine Ow.makeB (k:=.i64) (n:=R) rfl (by simp only [S0,Nat.reduceEqDiff]) (by omega) ?_
 rw [hzr]
 have hxa:=(AL.Ext.refl Ha).new (⟨(ofN R 0).map .bool,0⟩:Blk)
 have hr1:IsM (Ha.new ⟨(ofN R 0).map .bool,0⟩) (.slice (some ⟨Ha.n,0,none⟩) R R) (ofN R 0) Ha.n:=⟨by rw [ofN_length],Nat.lt_succ_self _,T.get_set_self _ _ _⟩
 have hq2:=IsM_ext hq1 hxa
 have hx2:=hx1.trans hxa
 have hne:Ha.n≠iq:=by have:=hq1.2.1;omega
 have hHn:=hx1.n
 (refine Ow.popM rfl ?_;simp only [S0,Nat.reduceEqDiff])
 refine Ow.nilM ⟨nofun,?_⟩
 refine Cw.seq (Cw.seq (Cw.region ?_))
 iterate 4 (refine Ow.popM rfl ?_;simp only [S0,Nat.reduceEqDiff,fw_int (show -(2^62)≤(la.length:Int)-1 by omega) (by omega)])
 refine Ow.nilM ⟨nofun,?_⟩
 refine Cw.block (Cw.loopI la.length (fun k E H2=>(E.get 0=some (.slice aa la.length ca)∧E.get 1=some (.slice ab lb.length cb)∧E.get 4=some (.slice (some ⟨iq,0,none⟩) la.length la.length)∧E.get 8=some (.int .i64 ((la.length:Int)-1-(k:Int))))∧AL.Ext H H2∧IsM H2 (.slice (some ⟨iq,0,none⟩) la.length la.length) (ofN la.length (A / 2^(la.length-k) / B*2^(la.length-k))) iq∧∃ u id,E.get 7=some u∧id≠iq∧H.n≤id∧IsM H2 u (ofN R (A / 2^(la.length-k) % B)) id) ⟨?_,hx2,?_,.slice (some ⟨Ha.n,0,none⟩) R R,Ha.n,by simp only [S0,Nat.reduceEqDiff],hne,hHn,?_⟩ ?_)
 ·simp only [S0,Nat.reduceEqDiff];exact ⟨trivial,trivial,trivial,by simp⟩
 ·rw [Nat.sub_zero,Nat.div_eq_of_lt hAL,Nat.zero_div,Nat.zero_mul];exact hq2
 ·rw [Nat.sub_zero,Nat.div_eq_of_lt hAL,Nat.zero_mod];exact hr1
 clear hq1 hq2 hr1 hx1 hx2 hxa hne hx0
 rintro k E H2 hk ⟨⟨e0,e1,e4,e8⟩,hxt,hq,u,id,e7,hne,hid,hu⟩
 refine Cw.seq (Cw.seq (Cw.region ?_))
 by_cases hlt:k<la.length
 ·have hi:((la.length:Int)-1-(k:Int))=((la.length-(k+1):Nat):Int):=by omega
  have hst:=div_step A (la.length-(k+1))
  rw [show la.length-(k+1)+1=la.length-k by omega,←hA,val_bit,hA] at hst
  rw [show la.length-k=la.length-(k+1)+1 by omega] at hst hq hu
  have hjl:la.length-(k+1)<la.length:=by omega
  have hj1:((la.length-(k+1):Nat):Int)-1=(la.length:Int)-1-((k+1:Nat):Int):=by omega
  rw [hi] at e8
  generalize hj:la.length-(k+1)=j at *
  generalize hP:A / 2^(j+1)=P at *
  have hab:(bx la j).toNat≤1:=by cases bx la j<;>decide
  have hdr:=div_round (P:=P) (B:=B) hB hab
  rw [←hst] at hdr
  have hmB:=Nat.mod_lt P hB
  iterate 2 (refine Ow.popM rfl ?_;simp only [S0,Nat.reduceEqDiff,e8,ge0_true j])
  refine Ow.nilM ⟨nofun,?_⟩
  refine Cw.cond (t:=true) (by simp only [S0,Nat.reduceEqDiff]) ?_
  refine Cw.skip ?_
  refine Cw.seq (Cw.block (Cw.seq (Cw.region ?_)))
  (refine Ow.popM rfl ?_;simp only [S0,Nat.reduceEqDiff,e7])
  refine Ow.callE (k:=183) (fs:=[]) (cs:=[]) (vs:=[u,.int .i64 1]) rfl rfl (by simp only [S0,Nat.reduceEqDiff]) (shl_any hx hu.isB.wl (by rw [ofN_length];omega)) ?_
  rintro v H3 w3 hx3 ⟨id3,hid3,hv⟩
  rw [ofN_length,val_ofN,Nat.mod_eq_of_lt (by omega),show (2:Nat)^Int.toNat 1=2 from rfl,Nat.mul_comm] at hv
  have hid3':H2.n≤id3:=hid3
  have hq3:=IsM_ext hq hx3
  have hx13:=hxt.trans hx3
  (refine Ow.popM rfl ?_;simp only [S0,Nat.reduceEqDiff])
  refine Ow.nilM ⟨nofun,?_⟩
  refine Cw.seq (Cw.region ?_)
  obtain ⟨ad,cap,bk,ee,h1,h2,h3⟩:=(ha.ext hx13).at (bx_lt hjl)
  simp only [Value.slice.injEq] at ee
  obtain ⟨rfl,-,rfl⟩:=ee
  obtain ⟨rfl,q2,q3⟩:=hv
  iterate 4 (refine Ow.popM rfl ?_;simp only [S0,Nat.reduceEqDiff,e0,e8,ix_ok hjl])
  (refine Ow.hopM rfl rfl ?_;simp only [S0,Nat.reduceEqDiff,h2,h3])
  rw [ofN_length] at *
  (refine Ow.popM rfl ?_;simp only [S0,Nat.reduceEqDiff,show ((0:Int)≤0∧(0:Int)<(R:Int))=True from eq_true ⟨by omega,by omega⟩,show Int.toNat 0=0 from rfl])
  have hlow:=hxt.n
  have hqlt:=hq.2.1
  refine Ow.store1 (b:=Nat.blt (min H3.n id3) H3.n) (ad:=⟨id3,0,none⟩) (v:=.bool (bx la j)) rfl (by simp only [S0,Nat.reduceEqDiff]) (by simp only [S0,Nat.reduceEqDiff]) rfl rfl q3 (by simp) (by simp [ofN_length];omega) rfl ?_
  intro wl hwl
  refine Ow.nil ⟨nofun,?_⟩
  have hset:((ofN R (2*(P % B))).map Value.bool).set 0 (.bool (bx la j))=(ofN R (2*(P % B)+(bx la j).toNat)).map .bool:=by rw [←List.map_set,set_bit0 (by omega)]
  have h3w:=hx13.wl
  have h3w':min H.wl H.n≤w3:=h3w
  have hn3:H2.n≤H3.n:=hx3.n
  show Cw _ _ _ _ _
  refine Cw.genH (fun H4=>AL.Ext H H4∧IsM H4 (.slice (some ⟨iq,0,none⟩) la.length la.length) (ofN la.length (P / B*2^(j+1))) iq∧IsM H4 (.slice (some ⟨id3,0,none⟩) R R) (ofN R (2*(P % B)+(bx la j).toNat)) id3) ⟨⟨?_,?_,?_⟩,⟨by rw [ofN_length],?_,?_⟩,⟨by rw [ofN_length],?_,?_⟩⟩ ?_
  ·exact hx13.n
  ·intro i hi
   show (H3.t.set id3 _).get i=_
   rw [T.get_set_ne _ _ (by omega)];exact hx13.get i hi
  ·show _≤wl
   rw [hwl]
   show min H.wl H.n≤min w3 (min H3.n id3)
   omega
  ·exact hq3.2.1
  ·show (H3.t.set id3 _).get iq=_
   rw [T.get_set_ne _ _ (by omega)];exact hq3.2.2
  ·exact q2
  ·show (H3.t.set id3 _).get id3=_
   rw [T.get_set_self,hset]
  rintro H4 ⟨hx4,hq4,hr4⟩
  generalize hX:2*(P % B)+(bx la j).toNat=X at *
  have hXR:X<2^R:=by omega
  refine Cw.seq (Cw.region ?_)
  iterate 2 (refine Ow.popM rfl ?_;simp only [S0,Nat.reduceEqDiff,e1])
  refine Ow.callE (k:=172) (fs:=[]) (cs:=[]) (vs:=[.slice (some ⟨id3,0,none⟩) R R,.slice ab lb.length cb]) rfl rfl (by simp only [S0,Nat.reduceEqDiff]) (cmp_any hx hr4.isB.wl (hb.ext hx4).wl (by rw [ofN_length];omega) (by omega)) ?_
  rintro _ H5 w5 hx5 rfl
  rw [val_ofN,Nat.mod_eq_of_lt hXR,hvb]
  (refine Ow.popM rfl ?_;simp only [S0,Nat.reduceEqDiff,cmp_ge])
  refine Ow.nilM ⟨nofun,?_⟩
  have hx5':=hx4.trans hx5
  have hq5:=IsM_ext hq4 hx5
  have hr5:=IsM_ext hr4 hx5
  by_cases hge:B≤X
  ·rw [if_pos hge,if_pos hge] at hdr
   refine Cw.cond (t:=true) (by simp only [S0,Nat.reduceEqDiff,hge,decide_true]) ?_
   refine Cw.region ?_
   iterate 4 (refine Ow.popM rfl ?_;simp only [S0,Nat.reduceEqDiff,e1,e4,e8])
   refine Ow.callE (k:=148) (fs:=[]) (cs:=[]) (vs:=[.slice (some ⟨id3,0,none⟩) R R,.slice ab lb.length cb]) rfl rfl (by simp only [S0,Nat.reduceEqDiff]) (sub_any hx hr5.isB.wl (hb.ext hx5').wl (by rw [ofN_length];omega)) ?_
   rintro y H6 w6 hx6 ⟨id6,hid6,hy⟩
   rw [ofN_length,val_ofN,Nat.mod_eq_of_lt hXR,hvb,Nat.mod_eq_of_lt (by omega:B<2^R),ofN_eq (show (X+(2^R-B)) % 2^R=(X-B) % 2^R by rw [show X+(2^R-B)=(X-B)+2^R by omega,Nat.add_mod_right]),←hdr.2] at hy
   have hq6:=IsM_ext hq5 hx6
   have hx6':=hx5'.trans hx6
   have hid6':H5.n≤id6:=hid6
   have hq5n:=hq5.2.1
   have hq5n':iq<H5.n:=hq5n
   obtain ⟨-,p2,p3⟩:=hq6
   have hy6:=hy
   iterate 2 (refine Ow.popM rfl ?_;simp only [S0,Nat.reduceEqDiff,ix_ok hjl])
   refine Ow.store1 (b:=Nat.blt (min H6.n iq) H6.n) (ad:=⟨iq,j,none⟩) (v:=.bool true) rfl (by simp only [S0,Nat.reduceEqDiff]) rfl rfl rfl p3 (by simp) (by simp [ofN_length];omega) rfl ?_
   intro wl2 hwl2
   refine Ow.nil ⟨nofun,?_⟩
   have hset2:((ofN la.length (P / B*2^(j+1))).map Value.bool).set j (.bool true)=(ofN la.length (A / 2^j / B*2^j)).map .bool:=by
    rw [←List.map_set,set_bitj hjl,hdr.1,Nat.add_mul,Nat.one_mul,Nat.pow_succ,←Nat.mul_assoc,Nat.mul_right_comm,Nat.mul_comm 2 (P / B)]
   have h6w':min H.wl H.n≤w6:=hx6'.wl
   show Cw _ _ _ _ _
   refine Cw.genH (fun H7=>AL.Ext H H7∧IsM H7 (.slice (some ⟨iq,0,none⟩) la.length la.length) (ofN la.length (A / 2^j / B*2^j)) iq∧IsM H7 y (ofN R (A / 2^j % B)) id6) ⟨⟨?_,?_,?_⟩,⟨by rw [ofN_length],?_,?_⟩,⟨hy6.1,hy6.2.1,?_⟩⟩ ?_
   ·exact hx6'.n
   ·intro i hi
    show (H6.t.set iq _).get i=_
    rw [T.get_set_ne _ _ (by omega)];exact hx6'.get i hi
   ·show _≤wl2
    rw [hwl2]
    show min H.wl H.n≤min w6 (min H6.n iq)
    have:H.n≤H6.n:=hx6'.n
    omega
   ·exact p2
   ·show (H6.t.set iq _).get iq=_
    rw [T.get_set_self,hset2]
   ·show (H6.t.set iq _).get id6=_
    rw [T.get_set_ne _ _ (by omega)];exact hy6.2.2
   rintro H7 ⟨hx7,hq7,hr7⟩
   refine Cw.region ?_
   iterate 3 (refine Ow.popM rfl ?_;simp only [S0,Nat.reduceEqDiff,e8,fw_int (show -(2^62)≤(j:Int)-1 by omega) (by omega)])
   refine Ow.nilM ⟨nofun,hlt,?_,hx7,?_,y,id6,?_,?_,?_,?_⟩
   ·simp only [S0,Nat.reduceEqDiff,e0,e1,e4,hj1,and_self]
   ·rw [hj];exact hq7
   ·simp only [S0,Nat.reduceEqDiff]
   ·omega
   ·have:=hx4.n;have:=hx5.n;have h45:H4.n≤H5.n:=this;omega
   ·rw [hj];exact hr7
  ·rw [if_neg hge,if_neg hge] at hdr
   refine Cw.cond (t:=false) (by simp only [S0,Nat.reduceEqDiff,hge,decide_false]) ?_
   refine Cw.skip ?_
   show Cw _ _ _ _ _
   refine Cw.region ?_
   iterate 3 (refine Ow.popM rfl ?_;simp only [S0,Nat.reduceEqDiff,e8,fw_int (show -(2^62)≤(j:Int)-1 by omega) (by omega)])
   refine Ow.nilM ⟨nofun,hlt,?_,hx5',?_,.slice (some ⟨id3,0,none⟩) R R,id3,?_,?_,?_,?_⟩
   ·simp only [S0,Nat.reduceEqDiff,e0,e1,e4,hj1,and_self]
   ·rw [hj,hdr.1,Nat.add_zero,Nat.mul_comm 2 (P / B),Nat.mul_assoc,←Nat.pow_succ'];exact hq5
   ·simp only [S0,Nat.reduceEqDiff]
   ·omega
   ·omega
   ·rw [hj,hdr.2];exact hr5
 ·obtain rfl:k=la.length:=by omega
  iterate 2 (refine Ow.popM rfl ?_;simp only [S0,Nat.reduceEqDiff,e8,ge0_neg (show (la.length:Int)-1-(la.length:Int)<0 by omega)])
  refine Ow.nilM ⟨nofun,?_⟩
  refine Cw.cond (t:=false) (by simp only [S0,Nat.reduceEqDiff]) ?_
  refine Cw.exit ?_
  show Cw _ _ _ _ _
  rw [Nat.sub_self,Nat.pow_zero,Nat.div_one] at hq hu
  rw [Nat.mul_one] at hq
  have hu1:=hu.1
  rw [ofN_length] at hu1
  subst hu1
  refine Cw.seq (Cw.region ?_)
  iterate 6 (refine Ow.popM rfl ?_;simp only [S0,Nat.reduceEqDiff,e0,e4,e7])
  (refine Ow.popM rfl ?_;simp only [S0,Nat.reduceEqDiff,evo,cut_3 (show la.length≤R by omega) (by omega),show Nat.beq 1 0=false from rfl])
  iterate 3 (refine Ow.popM rfl ?_;simp only [S0,Nat.reduceEqDiff])
  refine Ow.nilM ⟨fun _=>by rfl,?_⟩
  refine Cw.ret ?_
  simp only [Then,InBlock,Rnd,FnPost,resOf,tupled,S0,Nat.reduceEqDiff]
  refine ⟨hxt,?_⟩
  rw [if_neg hz]
  exact ⟨_,_,rfl,⟨iq,hiq,hq⟩,isR_cut hu hid (by omega)⟩
end
section
open Go Go.AL
variable {ext:Nat→Option (List Value→AH→Option (Value×AH))}
def ng (l:List Bool):Bool:=bx l (l.length-1)
def absN (l:List Bool):Nat:=if ng l then 2^l.length-val l else val l
theorem ng_pos {l:List Bool} (h:ng l=true):0<val l:=by
 rcases Nat.eq_zero_or_pos (val l) with h0 | h0
 ·have h1:=val_bit l (l.length-1)
  rw [h0,Nat.zero_testBit] at h1
  unfold ng at h
  rw [h] at h1
  cases h1
 ·exact h0
theorem absN_lt (l:List Bool):absN l<2^l.length:=by
 unfold absN
 have:=val_lt l
 split
 ·rename_i h
  have:=ng_pos h
  omega
 ·exact this
theorem size_any (hx:Ext0 ext) {H:AH} {v:Value} {l:List Bool} (hv:IsB H v l) (hl:l.length<2^36) :
  Run (Cx ext) 198 [v] H fun r H'=>AL.Ext H H'∧IsB H' r (ofN l.length (absN l)):=by
 refine Run.intro (fi:=IR.fi198) (hx 198 (by decide)) (by kernel_rfl) ?_
 unfold IR.fi198
 simp only [envOf_cons,envOf_nil]
 refine Cw.seq (Cw.region ?_)
 (refine Ow.popM rfl ?_;simp only [S0,Nat.reduceEqDiff])
 refine Ow.nilM ⟨nofun,?_⟩
 refine Cw.seq (Cw.seq (Cw.region ?_))
 (refine Ow.popM rfl ?_;simp only [S0,Nat.reduceEqDiff])
 refine Ow.callP (k:=174) (vs:=[v]) rfl rfl (by simp only [S0,Nat.reduceEqDiff]) (negative_any hx hv.wl hl) ?_
 intro w1 hx1
 refine Ow.nilM ⟨nofun,?_⟩
 cases hn:bx l (l.length-1) with
 | true=>
   refine Cw.cond (t:=true) (by simp only [S0,Nat.reduceEqDiff]) ?_
   refine Cw.seq (Cw.region ?_)
   (refine Ow.popM rfl ?_;simp only [S0,Nat.reduceEqDiff])
   refine Ow.callE (k:=199) (fs:=[]) (cs:=[]) (vs:=[v]) rfl rfl (by simp only [S0,Nat.reduceEqDiff]) (neg_any hx (hv.ext hx1).wl hl) ?_
   rintro r H2 w2 hx2 ⟨id,hid,hr⟩
   (refine Ow.popM rfl ?_;simp only [S0,Nat.reduceEqDiff])
   refine Ow.nilM ⟨nofun,?_⟩
   refine Cw.ret ?_
   simp only [Then,InBlock,Rnd,FnPost,resOf,tupled,S0,Nat.reduceEqDiff]
   refine ⟨hx1.trans hx2,?_⟩
   have hr2:=hr.isB
   rw [Nat.mod_eq_of_lt (val_lt l)] at hr2
   unfold absN ng
   rw [hn,if_pos rfl]
   exact hr2
 | false=>
   refine Cw.cond (t:=false) (by simp only [S0,Nat.reduceEqDiff]) ?_
   refine Cw.skip ?_
   show Cw _ _ _ _ _
   refine Cw.seq (Cw.region ?_)
   iterate 2 (refine Ow.popM rfl ?_;simp only [S0,Nat.reduceEqDiff])
   refine Ow.nilM ⟨nofun,?_⟩
   refine Cw.ret ?_
   simp only [Then,InBlock,Rnd,FnPost,resOf,tupled,S0,Nat.reduceEqDiff]
   refine ⟨hx1,?_⟩
   unfold absN ng
   rw [hn,if_neg (by decide),ofN_val]
   exact hv.ext hx1
def squo (la lb:List Bool):List Bool:=ofN la.length (if ng la != ng lb then 2^la.length-(absN la / absN lb) % 2^la.length else absN la / absN lb)
def srem (la lb:List Bool):List Bool:=ofN la.length (if ng la then 2^la.length-(absN la % absN lb) % 2^la.length else absN la % absN lb)
theorem IsR_base {H0 H1 H:AH} {v:Value} {l:List Bool} (h:IsR H1 H v l) (hn:H0.n≤H1.n):IsR H0 H v l:=by
 rcases h with h | ⟨id,off,cap,bk,rfl,hc,h1,h2,h3,h4,h5,h6⟩
 ·exact .inl h
 ·exact .inr ⟨id,off,cap,bk,rfl,hc,Nat.le_trans hn h1,h2,h3,h4,h5,h6⟩
theorem sdivmod_any (hx:Ext0 ext) {H:AH} {va vb:Value} {la lb:List Bool} (ha:IsB H va la) (hb:IsB H vb lb) (hla:la.length<2^34) (hlb:lb.length<2^34) :
  Run (Cx ext) 171 [va,vb] H fun r H'=>AL.Ext H H'∧if absN lb=0 then r=.tuple ⟨[.slice none 0 0,.slice none 0 0,.int .i64 7]⟩ else
   ∃ u w,r=.tuple ⟨[u,w,.int .i64 0]⟩∧IsR H H' u (squo la lb)∧IsR H H' w (srem la lb):=by
 refine Run.intro (fi:=IR.fi171) (hx 171 (by decide)) (by kernel_rfl) ?_
 unfold IR.fi171
 simp only [envOf_cons,envOf_nil]
 refine Cw.seq (Cw.region ?_)
 iterate 3 (refine Ow.popM rfl ?_;simp only [S0,Nat.reduceEqDiff])
 refine Ow.nilM ⟨nofun,?_⟩
 refine Cw.seq (Cw.region ?_)
 (refine Ow.popM rfl ?_;simp only [S0,Nat.reduceEqDiff])
 refine Ow.callE (k:=198) (fs:=[]) (cs:=[]) (vs:=[va]) rfl rfl (by simp only [S0,Nat.reduceEqDiff]) (size_any hx ha.wl (by omega)) ?_
 rintro x H1 w1 hx1 hx'
 have hX1:IsB { H1 with wl:=w1 } x _:=hx'
 have hb1:=hb.ext hx1
 (refine Ow.popM rfl ?_;simp only [S0,Nat.reduceEqDiff])
 refine Ow.callE (k:=198) (fs:=[]) (cs:=[]) (vs:=[vb]) rfl rfl (by simp only [S0,Nat.reduceEqDiff]) (size_any hx hb1.wl (by omega)) ?_
 rintro y H2 w2 hx2 hy'
 have hY2:IsB { H2 with wl:=w2 } y _:=hy'
 have hX2:=hX1.ext hx2
 have hx02:=hx1.trans hx2
 refine Ow.callE (k:=170) (fs:=[]) (cs:=[]) (vs:=[x,y]) rfl rfl (by simp only [S0,Nat.reduceEqDiff]) (divmod_any hx hX2.wl hY2.wl (by rw [ofN_length];exact hla) (by rw [ofN_length];exact hlb)) ?_
 rintro r H3 w3 hx3 hr
 have hx03:=hx02.trans hx3
 rw [ofN_length,val_ofN,val_ofN,Nat.mod_eq_of_lt (absN_lt la),Nat.mod_eq_of_lt (absN_lt lb)] at hr
 by_cases hz:absN lb=0
 ·rw [if_pos hz] at hr
  subst hr
  iterate 7 (refine Ow.popM rfl ?_;simp only [S0,Nat.reduceEqDiff,List.getElem?_cons_zero,List.getElem?_cons_succ])
  refine Ow.nilM ⟨nofun,?_⟩
  refine Cw.seq (Cw.seq (Cw.region ?_))
  iterate 2 (refine Ow.popM rfl ?_;simp only [S0,Nat.reduceEqDiff,show ((7:Int) != 0)=true from rfl])
  refine Ow.nilM ⟨nofun,?_⟩
  refine Cw.cond (t:=true) (by simp only [S0,Nat.reduceEqDiff]) ?_
  refine Cw.seq (Cw.region ?_)
  iterate 4 (refine Ow.popM rfl ?_;simp only [S0,Nat.reduceEqDiff])
  refine Ow.nilM ⟨nofun,?_⟩
  refine Cw.ret ?_
  simp only [Then,InBlock,Rnd,FnPost,resOf,tupled,S0,Nat.reduceEqDiff]
  refine ⟨hx03,?_⟩
  rw [if_pos hz]
  exact trivial
 rw [if_neg hz] at hr
 obtain ⟨u,w,rfl,⟨iu,hiu,hu⟩,hw⟩:=hr
 have hn2:H.n≤H2.n:=hx02.n
 have hiu':H2.n≤iu:=hiu
 have hu3:IsR H { H3 with wl:=w3 } u _:=hu.isR (by omega)
 have hw3:IsR H { H3 with wl:=w3 } w _:=IsR_base hw hn2
 iterate 7 (refine Ow.popM rfl ?_;simp only [S0,Nat.reduceEqDiff,List.getElem?_cons_zero,List.getElem?_cons_succ])
 refine Ow.nilM ⟨nofun,?_⟩
 refine Cw.seq (Cw.seq (Cw.region ?_))
 iterate 2 (refine Ow.popM rfl ?_;simp only [S0,Nat.reduceEqDiff,show ((0:Int) != 0)=false from rfl])
 refine Ow.nilM ⟨nofun,?_⟩
 refine Cw.cond (t:=false) (by simp only [S0,Nat.reduceEqDiff]) ?_
 refine Cw.skip ?_
 show Cw _ _ _ _ _
 refine Cw.seq (Cw.mono (Q:=fun c E' H'=>c=.normal∧AL.Ext H H'∧(E'.get 0=some va∧E'.get 5=some w)∧IsR H H' w (ofN la.length (absN la % absN lb))∧∃ u',E'.get 4=some u'∧IsR H H' u' (squo la lb)) ?_ ?_)
 ·refine Cw.seq (Cw.region ?_)
  (refine Ow.popM rfl ?_;simp only [S0,Nat.reduceEqDiff])
  refine Ow.callP (k:=174) (vs:=[va]) rfl rfl (by simp only [S0,Nat.reduceEqDiff]) (negative_any hx (ha.ext hx03).wl (by omega)) ?_
  intro w4 hx4
  have hx04:=hx03.trans hx4
  (refine Ow.popM rfl ?_;simp only [S0,Nat.reduceEqDiff])
  refine Ow.callP (k:=174) (vs:=[vb]) rfl rfl (by simp only [S0,Nat.reduceEqDiff]) (negative_any hx (hb.ext hx04).wl (by omega)) ?_
  intro w5 hx5
  have hx05:=hx04.trans hx5
  have hu5:=(hu3.ext hx4).ext hx5
  have hw5:=(hw3.ext hx4).ext hx5
  (refine Ow.popM rfl ?_;simp only [S0,Nat.reduceEqDiff])
  refine Ow.nilM ⟨nofun,?_⟩
  have hsq:(bx la (la.length-1) != bx lb (lb.length-1))=(ng la != ng lb):=rfl
  rw [hsq]
  cases hn:(ng la != ng lb) with
  | true=>
    refine Cw.cond (t:=true) (by simp only [S0,Nat.reduceEqDiff]) ?_
    refine Cw.region ?_
    (refine Ow.popM rfl ?_;simp only [S0,Nat.reduceEqDiff])
    refine Ow.callE (k:=199) (fs:=[]) (cs:=[]) (vs:=[u]) rfl rfl (by simp only [S0,Nat.reduceEqDiff]) (neg_any hx hu5.isB.wl (by rw [ofN_length];omega)) ?_
    rintro z H6 w6 hx6 ⟨iz,hiz,hz'⟩
    rw [ofN_length,val_ofN,Nat.mod_mod] at hz'
    (refine Ow.popM rfl ?_;simp only [S0,Nat.reduceEqDiff])
    have h5n:H.n≤iz:=by have h:=hx05.n;have h2:H3.n≤iz:=hiz;have h3:H.n≤H3.n:=h;omega
    refine Ow.nilM ⟨nofun,trivial,hx05.trans hx6,?_,hw5.ext hx6,z,?_,?_⟩
    ·simp only [S0,Nat.reduceEqDiff,and_self]
    ·simp only [S0,Nat.reduceEqDiff]
    ·unfold squo
     rw [hn,if_pos rfl]
     exact (show IsM { H6 with wl:=w6 } z _ iz from hz').isR h5n
  | false=>
    refine Cw.cond (t:=false) (by simp only [S0,Nat.reduceEqDiff]) ?_
    refine Cw.skip ⟨rfl,hx05,?_,hw5,u,?_,?_⟩
    ·simp only [S0,Nat.reduceEqDiff,and_self]
    ·simp only [S0,Nat.reduceEqDiff]
    ·unfold squo
     rw [hn,if_neg (by decide)]
     exact hu5
 rintro c E4 H4 ⟨rfl,hx4,⟨g0,g5⟩,hw4,u',g4,hu4⟩
 refine Cw.seq (Cw.seq (Cw.region ?_))
 (refine Ow.popM rfl ?_;simp only [S0,Nat.reduceEqDiff,g0])
 refine Ow.callP (k:=174) (vs:=[va]) rfl rfl (by simp only [S0,Nat.reduceEqDiff]) (negative_any hx (ha.ext hx4).wl (by omega)) ?_
 intro w5 hx5
 have hx05:=hx4.trans hx5
 refine Ow.nilM ⟨nofun,?_⟩
 cases hn:bx la (la.length-1) with
 | true=>
   refine Cw.cond (t:=true) (by simp only [S0,Nat.reduceEqDiff]) ?_
   refine Cw.region ?_
   (refine Ow.popM rfl ?_;simp only [S0,Nat.reduceEqDiff,g5])
   refine Ow.callE (k:=199) (fs:=[]) (cs:=[]) (vs:=[w]) rfl rfl (by simp only [S0,Nat.reduceEqDiff]) (neg_any hx (hw4.ext hx5).isB.wl (by rw [ofN_length];omega)) ?_
   rintro z H6 w6 hx6 ⟨iz,hiz,hz'⟩
   rw [ofN_length,val_ofN,Nat.mod_mod] at hz'
   have h5n:H.n≤iz:=by have h:=hx05.n;have h2:H4.n≤iz:=hiz;have h3:H.n≤H4.n:=h;omega
   (refine Ow.popM rfl ?_;simp only [S0,Nat.reduceEqDiff])
   refine Ow.nilM ⟨nofun,?_⟩
   show Cw _ _ _ _ _
   refine Cw.seq (Cw.region ?_)
   iterate 5 (refine Ow.popM rfl ?_;simp only [S0,Nat.reduceEqDiff,g4])
   refine Ow.nilM ⟨nofun,?_⟩
   refine Cw.ret ?_
   simp only [Then,InBlock,Rnd,FnPost,resOf,tupled,S0,Nat.reduceEqDiff]
   refine ⟨hx05.trans hx6,?_⟩
   rw [if_neg hz]
   refine ⟨u',z,rfl,(hu4.ext hx5).ext hx6,?_⟩
   unfold srem ng
   rw [hn,if_pos rfl]
   exact (show IsM { H6 with wl:=w6 } z _ iz from hz').isR h5n
 | false=>
   refine Cw.cond (t:=false) (by simp only [S0,Nat.reduceEqDiff]) ?_
   refine Cw.skip ?_
   show Cw _ _ _ _ _
   refine Cw.seq (Cw.region ?_)
   iterate 5 (refine Ow.popM rfl ?_;simp only [S0,Nat.reduceEqDiff,g4,g5])
   refine Ow.nilM ⟨nofun,?_⟩
   refine Cw.ret ?_
   simp only [Then,InBlock,Rnd,FnPost,resOf,tupled,S0,Nat.reduceEqDiff]
   refine ⟨hx05,?_⟩
   rw [if_neg hz]
   refine ⟨u',w,rfl,hu4.ext hx5,?_⟩
   unfold srem ng
   rw [hn,if_neg (by decide)]
   exact hw4.ext hx5
end
section
open Go Go.AL
variable {ext:Nat→Option (List Value→AH→Option (Value×AH))}
def scmpN (la lb:List Bool):Int:=if ng la&&!ng lb then -1 else if ng lb&&!ng la then 1 else if ng la then cmpN (absN lb) (absN la) else cmpN (val la) (val lb)
theorem scmp_any (hx:Ext0 ext) {H:AH} {va vb:Value} {la lb:List Bool} (ha:IsB H va la) (hb:IsB H vb lb) (hla:la.length<2^34) (hlb:lb.length<2^34) :
  Run (Cx ext) 173 [va,vb] H fun r H'=>AL.Ext H H'∧r=.int .i64 (scmpN la lb):=by
 refine Run.intro (fi:=IR.fi173) (hx 173 (by decide)) (by kernel_rfl) ?_
 unfold IR.fi173
 simp only [envOf_cons,envOf_nil]
 refine Cw.seq (Cw.region ?_)
 (refine Ow.popM rfl ?_;simp only [S0,Nat.reduceEqDiff])
 refine Ow.nilM ⟨nofun,?_⟩
 refine Cw.seq (Cw.seq (Cw.region ?_))
 (refine Ow.popM rfl ?_;simp only [S0,Nat.reduceEqDiff])
 refine Ow.callP (k:=174) (vs:=[va]) rfl rfl (by simp only [S0,Nat.reduceEqDiff]) (negative_any hx ha.wl (by omega)) ?_
 intro w1 hx1
 (refine Ow.popM rfl ?_;simp only [S0,Nat.reduceEqDiff])
 refine Ow.callP (k:=174) (vs:=[vb]) rfl rfl (by simp only [S0,Nat.reduceEqDiff]) (negative_any hx (hb.ext hx1).wl (by omega)) ?_
 intro w2 hx2
 have hx02:=hx1.trans hx2
 iterate 2 (refine Ow.popM rfl ?_;simp only [S0,Nat.reduceEqDiff])
 refine Ow.nilM ⟨nofun,?_⟩
 have e1:bx la (la.length-1)=ng la:=rfl
 have e2:bx lb (lb.length-1)=ng lb:=rfl
 rw [e1,e2]
 unfold scmpN
 refine Cw.block (Cw.seq (Cw.region ?_))
 have ha2:=ha.ext hx02
 have hb2:=hb.ext hx02
 cases hna:ng la<;>cases hnb:ng lb
 ·iterate 2 (refine Ow.popM rfl ?_;simp only [S0,Nat.reduceEqDiff])
  iterate 2 refine Ow.pass (by simp only [S0,Nat.reduceEqDiff]) ?_
  iterate 2 (refine Ow.popM rfl ?_;simp only [S0,Nat.reduceEqDiff])
  refine Ow.nilM ⟨nofun,?_⟩
  refine Cw.cond (t:=false) (by simp only [S0,Nat.reduceEqDiff]) ?_
  refine Cw.seq (Cw.region ?_)
  iterate 2 (refine Ow.popM rfl ?_;simp only [S0,Nat.reduceEqDiff])
  iterate 2 refine Ow.pass (by simp only [S0,Nat.reduceEqDiff]) ?_
  iterate 2 (refine Ow.popM rfl ?_;simp only [S0,Nat.reduceEqDiff])
  refine Ow.nilM ⟨nofun,?_⟩
  refine Cw.cond (t:=false) (by simp only [S0,Nat.reduceEqDiff]) ?_
  refine Cw.seq (Cw.region ?_)
  iterate 2 (refine Ow.popM rfl ?_;simp only [S0,Nat.reduceEqDiff])
  refine Ow.nilM ⟨nofun,?_⟩
  refine Cw.cond (t:=false) (by simp only [S0,Nat.reduceEqDiff]) ?_
  refine Cw.skip ?_
  show Cw _ _ _ _ _
  refine Cw.seq (Cw.region ?_)
  iterate 2 (refine Ow.popM rfl ?_;simp only [S0,Nat.reduceEqDiff])
  refine Ow.callE (k:=172) (fs:=[]) (cs:=[]) (vs:=[va,vb]) rfl rfl (by simp only [S0,Nat.reduceEqDiff]) (cmp_any hx ha2.wl hb2.wl (by omega) (by omega)) ?_
  rintro _ H5 w5 hx5 rfl
  (refine Ow.popM rfl ?_;simp only [S0,Nat.reduceEqDiff])
  refine Ow.nilM ⟨nofun,?_⟩
  refine Cw.ret ?_
  simp only [Then,InBlock,Rnd,FnPost,resOf,tupled,S0,Nat.reduceEqDiff]
  exact ⟨hx02.trans hx5,rfl⟩
 ·iterate 2 (refine Ow.popM rfl ?_;simp only [S0,Nat.reduceEqDiff])
  iterate 2 refine Ow.pass (by simp only [S0,Nat.reduceEqDiff]) ?_
  iterate 2 (refine Ow.popM rfl ?_;simp only [S0,Nat.reduceEqDiff])
  refine Ow.nilM ⟨nofun,?_⟩
  refine Cw.cond (t:=false) (by simp only [S0,Nat.reduceEqDiff]) ?_
  refine Cw.seq (Cw.region ?_)
  iterate 6 (refine Ow.popM rfl ?_;simp only [S0,Nat.reduceEqDiff])
  refine Ow.nilM ⟨nofun,?_⟩
  refine Cw.cond (t:=true) (by simp only [S0,Nat.reduceEqDiff]) ?_
  refine Cw.seq (Cw.region ?_)
  (refine Ow.popM rfl ?_;simp only [S0,Nat.reduceEqDiff])
  refine Ow.nilM ⟨nofun,?_⟩
  refine Cw.ret ?_
  simp only [Then,InBlock,Rnd,FnPost,resOf,tupled,S0,Nat.reduceEqDiff]
  exact ⟨hx02,rfl⟩
 ·iterate 6 (refine Ow.popM rfl ?_;simp only [S0,Nat.reduceEqDiff])
  refine Ow.nilM ⟨nofun,?_⟩
  refine Cw.cond (t:=true) (by simp only [S0,Nat.reduceEqDiff]) ?_
  refine Cw.seq (Cw.region ?_)
  (refine Ow.popM rfl ?_;simp only [S0,Nat.reduceEqDiff])
  refine Ow.nilM ⟨nofun,?_⟩
  refine Cw.ret ?_
  simp only [Then,InBlock,Rnd,FnPost,resOf,tupled,S0,Nat.reduceEqDiff]
  exact ⟨hx02,rfl⟩
 ·iterate 6 (refine Ow.popM rfl ?_;simp only [S0,Nat.reduceEqDiff])
  refine Ow.nilM ⟨nofun,?_⟩
  refine Cw.cond (t:=false) (by simp only [S0,Nat.reduceEqDiff]) ?_
  refine Cw.seq (Cw.region ?_)
  iterate 6 (refine Ow.popM rfl ?_;simp only [S0,Nat.reduceEqDiff])
  refine Ow.nilM ⟨nofun,?_⟩
  refine Cw.cond (t:=false) (by simp only [S0,Nat.reduceEqDiff]) ?_
  refine Cw.seq (Cw.region ?_)
  iterate 2 (refine Ow.popM rfl ?_;simp only [S0,Nat.reduceEqDiff])
  refine Ow.nilM ⟨nofun,?_⟩
  refine Cw.cond (t:=true) (by simp only [S0,Nat.reduceEqDiff]) ?_
  refine Cw.seq (Cw.region ?_)
  (refine Ow.popM rfl ?_;simp only [S0,Nat.reduceEqDiff])
  refine Ow.callE (k:=198) (fs:=[]) (cs:=[]) (vs:=[vb]) rfl rfl (by simp only [S0,Nat.reduceEqDiff]) (size_any hx hb2.wl (by omega)) ?_
  rintro x H3 w3 hx3 hx'
  have hX3:IsB { H3 with wl:=w3 } x _:=hx'
  (refine Ow.popM rfl ?_;simp only [S0,Nat.reduceEqDiff])
  refine Ow.callE (k:=198) (fs:=[]) (cs:=[]) (vs:=[va]) rfl rfl (by simp only [S0,Nat.reduceEqDiff]) (size_any hx (ha2.ext hx3).wl (by omega)) ?_
  rintro y H4 w4 hx4 hy'
  have hY4:IsB { H4 with wl:=w4 } y _:=hy'
  refine Ow.callE (k:=172) (fs:=[]) (cs:=[]) (vs:=[x,y]) rfl rfl (by simp only [S0,Nat.reduceEqDiff]) (cmp_any hx (hX3.ext hx4).wl hY4.wl (by rw [ofN_length];omega) (by rw [ofN_length];omega)) ?_
  rintro _ H5 w5 hx5 rfl
  rw [val_ofN,val_ofN,Nat.mod_eq_of_lt (absN_lt la),Nat.mod_eq_of_lt (absN_lt lb)]
  (refine Ow.popM rfl ?_;simp only [S0,Nat.reduceEqDiff])
  refine Ow.nilM ⟨nofun,?_⟩
  refine Cw.ret ?_
  simp only [Then,InBlock,Rnd,FnPost,resOf,tupled,S0,Nat.reduceEqDiff]
  exact ⟨((hx02.trans hx3).trans hx4).trans hx5,rfl⟩
end
section
open Go Go.AL
theorem ng_nil {l:List Bool} (h:l.length=0):ng l=false:=by
 unfold ng
 exact bx_ge (by omega)
theorem absN_zero {l:List Bool}:absN l=0↔val l=0:=by
 unfold absN
 have hv:=val_lt l
 cases hn:ng l with
 | true=>have:=ng_pos hn;simp only [if_true];omega
 | false=>simp
def sval (l:List Bool):Int:=if ng l then -(absN l:Int) else absN l
theorem srem_length (la lb:List Bool):(srem la lb).length=la.length:=by unfold srem;exact ofN_length _ _
theorem squo_length (la lb:List Bool):(squo la lb).length=la.length:=by unfold squo;exact ofN_length _ _
def extS (l:List Bool) (n:Nat):List Bool:=(List.range n).map fun i=>if i<l.length then bx l i else ng l
theorem extS_length (l:List Bool) (n:Nat):(extS l n).length=n:=by simp [extS]
theorem SL:type_of% (And.intro ofN_length <| And.intro ofI_length <| And.intro shrF_length <| And.intro squo_length <| And.intro srem_length <| And.intro extS_length <| And.intro @List.length_append.{0} <| And.intro @List.length_replicate.{0} <| And.intro @List.length_cons.{0} <| @List.length_nil.{0}):=And.intro ofN_length <| And.intro ofI_length <| And.intro shrF_length <| And.intro squo_length <| And.intro srem_length <| And.intro extS_length <| And.intro @List.length_append.{0} <| And.intro @List.length_replicate.{0} <| And.intro @List.length_cons.{0} <| @List.length_nil.{0}
variable {ext:Nat→Option (List Value→AH→Option (Value×AH))}
end
section
open Go Go.AL
variable {ext:Nat→Option (List Value→AH→Option (Value×AH))}
def Spo (H0 H:AH) (vs:List Value):Prop:=∀ v,v∈vs→v=.slice none 0 0∨∃ id off n cap bk,v=.slice (some ⟨id,off,none⟩) n cap∧H0.n≤id∧id<H.n∧H.t.get id=some bk∧bk.kind≠1∧off+n≤bk.cells.length∧n<2^62∧∀ c∈bk.cells,∃ b,c=.bool b
theorem Spo.nil (H0 H:AH):Spo H0 H []:=fun v h=>absurd h (by simp)
end
section
open Go Go.AL
variable {ext:Nat→Option (List Value→AH→Option (Value×AH))}
def preB (l:List Bool) (k:Nat):List Bool:=(List.range l.length).map fun i=>decide (i<k)&&bx l i
theorem preB_length (l:List Bool) (k:Nat):(preB l k).length=l.length:=by simp [preB]
theorem preB_zero (l:List Bool):preB l 0=List.replicate l.length false:=by
 apply List.ext_getElem?
 intro i
 by_cases h:i<l.length<;>simp [preB,h,List.getElem?_replicate]
theorem preB_full (l:List Bool):preB l l.length=l:=by
 refine ext_bits (preB_length _ _) (fun i hi=>?_)
 rw [preB_length] at hi
 simp [preB,bx,List.getD_eq_getElem?_getD,hi]
theorem preB_set {l:List Bool} {k:Nat} (h:k<l.length):(preB l k).set k (bx l k)=preB l (k+1):=by
 apply List.ext_getElem?
 intro i
 rw [List.getElem?_set]
 by_cases hik:k=i
 ·subst hik
  simp [preB,h]
 ·rw [if_neg hik]
  by_cases hi:i<l.length
  ·simp only [preB,List.getElem?_map,List.getElem?_range hi,Option.map_some]
   have:(i<k+1)↔(i<k):=by omega
   simp [this]
  ·simp [preB,hi]
theorem bx_ofI {n i:Nat} {x:Int} (h:i<n):bx (ofI n x) i=(x.fdiv (2^i) % 2 == 1):=by
 simp [bx,ofI,List.getD_eq_getElem?_getD,h]
theorem fdiv_big {x:Int} (h1:-9223372036854775808≤x) (h2:x≤9223372036854775807) {i:Nat} (hi:63≤i):x.fdiv (2^i)=x.fdiv (2^63):=by
 have hp:(2:Int)^63≤2^i:=by
  have:=Nat.pow_le_pow_right (n:=2) (by decide) hi
  exact_mod_cast this
 have h63:(2:Int)^63=9223372036854775808:=by decide
 rw [Int.fdiv_eq_ediv_of_nonneg _ (by omega),Int.fdiv_eq_ediv_of_nonneg _ (by omega)]
 generalize (2:Int)^i=p at *
 by_cases hx:0≤x
 ·rw [Int.ediv_eq_zero_of_lt hx (by omega),Int.ediv_eq_zero_of_lt hx (by omega)]
 ·have e:∀ q:Int,9223372036854775808≤q→x / q=-1:=by
   intro q hq
   have h3:=Int.emod_add_mul_ediv x q
   have h4:=Int.emod_nonneg x (b:=q) (by omega)
   have h5:=Int.emod_lt_of_pos x (b:=q) (by omega)
   have h6:x / q<0:=Int.ediv_neg_of_neg_of_pos (by omega) (by omega)
   have h7:-1≤x / q:=by
    rw [Int.le_ediv_iff_mul_le (by omega)]
    omega
   omega
  rw [e _ (by omega),e _ (by omega)]
theorem min63 (k:Nat):(if (63:Int)<(k:Int) then (63:Int) else (k:Int))=((min k 63:Nat):Int):=by split<;>omega
theorem shr_i64 {x:Int} {k:Nat} (h:k≤63):aShift .shr .i64 x (k:Int)=some (.int .i64 (x.fdiv (2^k))):=by
 unfold aShift
 rw [if_neg (by omega)]
 simp only [Int.toNat_natCast,show Nat.min k (IntKind.bits .i64)=k from Nat.min_eq_left (by show k≤64;omega)]
theorem fdiv_min {x:Int} (h1:-9223372036854775808≤x) (h2:x≤9223372036854775807) {n k:Nat} (h:k<n):(x.fdiv (2^min k 63) % 2 == 1)=bx (ofI n x) k:=by
 rw [bx_ofI h]
 by_cases hk:k≤63
 ·rw [Nat.min_eq_left hk]
 ·rw [Nat.min_eq_right (by omega),fdiv_big h1 h2 (show 63≤k by omega)]
theorem preB_full' {l:List Bool} {n:Nat} (h:l.length=n):preB l n=l:=by subst h;exact preB_full l
theorem bFromInt_any (hx:Ext0 ext) {H:AH} {n w:Int} (h1:-9223372036854775808≤n) (h2:n≤9223372036854775807) :
  Run (Cx ext) 103 [.int .i64 (n),.int .i64 (w)] H fun r H'=>AL.Ext H H'∧if w<0∨w > 128 then r=.tuple ⟨[.slice none 0 0,.int .i64 1]⟩ else ∃ v,r=.tuple ⟨[v,.int .i64 0]⟩∧IsR H H' v (ofI w.toNat n):=by
 refine Run.intro (fi:=IR.fi103) (hx 103 (by decide)) (by kernel_rfl) ?_
 unfold IR.fi103
 simp only [envOf_cons,envOf_nil]
 refine Cw.seq ?_
 refine Cw.region ?_
 iterate 2 (refine Ow.popM rfl ?_;simp only [S0,Nat.reduceEqDiff,S1])
 refine Ow.nilM ⟨nofun,?_⟩
 show Cw _ _ _ _ _
 refine Cw.seq ?_
 refine Cw.seq ?_
 refine Cw.region ?_
 iterate 3 (refine Ow.popM rfl ?_;simp only [S0,Nat.reduceEqDiff,S1])
 by_cases hq1:w<0
 ·have hd1:decide (w<0)=true:=decide_eq_true hq1
  refine Ow.pass (by simp only [S0,Nat.reduceEqDiff,S1,hd1]) ?_
  refine Ow.pass (by simp only [S0,Nat.reduceEqDiff,S1,hd1]) ?_
  (refine Ow.popM rfl ?_;simp only [S0,Nat.reduceEqDiff,S1,hd1])
  refine Ow.nilM ⟨nofun,?_⟩
  show Cw _ _ _ _ _
  refine Cw.cond (t:=true) (by simp only [S0,Nat.reduceEqDiff,S1,hd1]) ?_
  refine Cw.seq ?_
  refine Cw.region ?_
  iterate 2 (refine Ow.popM rfl ?_;simp only [S0,Nat.reduceEqDiff,S1,hd1])
  refine Ow.nilM ⟨nofun,?_⟩
  show Cw _ _ _ _ _
  refine Cw.ret ?_
  simp only [Then,InBlock,Rnd,FnPost,resOf,tupled,S0,Nat.reduceEqDiff,hd1]
  exact ⟨(AL.Ext.refl _),by rw [if_pos (by omega)];trivial⟩
 ·have hd1:decide (w<0)=false:=decide_eq_false hq1
  iterate 3 (refine Ow.popM rfl ?_;simp only [S0,Nat.reduceEqDiff,S1,hd1])
  refine Ow.nilM ⟨nofun,?_⟩
  show Cw _ _ _ _ _
  by_cases hq2:w > 128
  ·have hd2:decide (w > 128)=true:=decide_eq_true hq2
   refine Cw.cond (t:=true) (by simp only [S0,Nat.reduceEqDiff,S1,hd1,hd2]) ?_
   refine Cw.seq ?_
   refine Cw.region ?_
   iterate 2 (refine Ow.popM rfl ?_;simp only [S0,Nat.reduceEqDiff,S1,hd1,hd2])
   refine Ow.nilM ⟨nofun,?_⟩
   show Cw _ _ _ _ _
   refine Cw.ret ?_
   simp only [Then,InBlock,Rnd,FnPost,resOf,tupled,S0,Nat.reduceEqDiff,hd1,hd2]
   exact ⟨(AL.Ext.refl _),by rw [if_pos (by omega)];trivial⟩
  ·have hd2:decide (w > 128)=false:=decide_eq_false hq2
   refine Cw.cond (t:=false) (by simp only [S0,Nat.reduceEqDiff,S1,hd1,hd2]) ?_
   refine Cw.skip ?_
   show Cw _ _ _ _ _
   refine Cw.seq ?_
   refine Cw.region ?_
   (refine Ow.popM rfl ?_;simp only [S0,Nat.reduceEqDiff,S1,hd1,hd2])
   have hw:w=((w.toNat:Nat):Int):=by omega
   refine Ow.makeA (k:=.i64) (n:=w.toNat) rfl (by simp only [S0,Nat.reduceEqDiff,S1,hd1,hd2];rw [←hw]) (by omega) ?_
   intro H3 id3 hx3 hi3 m3
   (refine Ow.popM rfl ?_;simp only [S0,Nat.reduceEqDiff,S1,hd1,hd2])
   refine Ow.nilM ⟨nofun,?_⟩
   show Cw _ _ _ _ _
   refine Cw.seq ?_
   refine Cw.seq ?_
   refine Cw.region ?_
   (refine Ow.popM rfl ?_;simp only [S0,Nat.reduceEqDiff,S1,hd1,hd2])
   refine Ow.lenA rfl (by simp only [S0,Nat.reduceEqDiff,S1,hd1,hd2]) m3.isB ?_
   rw [List.length_replicate]
   (refine Ow.popM rfl ?_;simp only [S0,Nat.reduceEqDiff,S1,hd1,hd2])
   refine Ow.nilM ⟨nofun,?_⟩
   show Cw _ _ _ _ _
   refine Cw.block ?_
   refine Cw.loopI (w.toNat) (fun k E Hq=>(E.get 0=some (.int .i64 (n))∧E.get 1=some (.int .i64 (w))∧E.get 6=some (.slice (some ⟨id3,0,none⟩) (w.toNat) (w.toNat))∧E.get 17=some (.int .i64 ((w.toNat:Nat):Int))∧E.get 18=some (.int .i64 ((k:Nat):Int)))∧AL.Ext H Hq∧IsM Hq (.slice (some ⟨id3,0,none⟩) (w.toNat) (w.toNat)) (preB (ofI w.toNat n) k) id3) ⟨⟨(by simp only [S0,Nat.reduceEqDiff,S1,and_self,hd1,hd2]),(by simp only [S0,Nat.reduceEqDiff,S1,and_self,hd1,hd2]),(by simp only [S0,Nat.reduceEqDiff,S1,and_self,hd1,hd2]),(by simp only [S0,Nat.reduceEqDiff,S1,and_self,hd1,hd2]),(by simp only [S0,Nat.reduceEqDiff,eq_self,hd1,hd2]<;>first | rfl | simp [Nat.mod_one])⟩,hx3,(by rw [preB_zero,ofI_length];exact m3)⟩ ?_
   rintro k4 E4 H4 hk4 ⟨⟨g4_0,g4_1,g4_6,g4_17,g4_18⟩,hx4,m3⟩
   by_cases hlt4:k4<w.toNat
   ·skip
    refine Cw.seq ?_
    refine Cw.region ?_
    (refine Ow.popM rfl ?_;simp only [S0,Nat.reduceEqDiff,S1,show decide ((((k4:Nat):Int):Int)<(((w.toNat:Nat):Int):Int))=decide (k4<w.toNat) from lt_dec (k4) (w.toNat),show decide (k4<w.toNat)=true from decide_eq_true (hlt4),g4_0,g4_1,g4_6,g4_17,g4_18,hd1,hd2])
    refine Ow.nilM ⟨nofun,?_⟩
    show Cw _ _ _ _ _
    refine Cw.seq ?_
    refine Cw.cond (t:=true) (by simp only [S0,Nat.reduceEqDiff,S1,g4_0,g4_1,g4_6,g4_17,g4_18,hd1,hd2]) ?_
    refine Cw.skip ?_
    show Cw _ _ _ _ _
    refine Cw.seq ?_
    refine Cw.block ?_
    refine Cw.seq ?_
    refine Cw.region ?_
    iterate 2 (refine Ow.popM rfl ?_;simp only [S0,Nat.reduceEqDiff,S1,g4_0,g4_1,g4_6,g4_17,g4_18,hd1,hd2])
    refine Ow.nilM ⟨nofun,?_⟩
    show Cw _ _ _ _ _
    refine Cw.region ?_
    iterate 5 (refine Ow.popM rfl ?_;simp only [S0,Nat.reduceEqDiff,S1,AL.foldV,amin2,min63,g4_0,g4_1,g4_6,g4_17,g4_18,hd1,hd2])
    (refine Ow.popM rfl ?_;simp only [S0,Nat.reduceEqDiff,S1,shr_i64 (x:=n) (show min k4 63≤63 by omega),g4_0,g4_1,g4_6,g4_17,g4_18,hd1,hd2])
    (refine Ow.popM rfl ?_;simp only [S0,Nat.reduceEqDiff,S1,and1,g4_0,g4_1,g4_6,g4_17,g4_18,hd1,hd2])
    (refine Ow.popM rfl ?_;simp only [S0,Nat.reduceEqDiff,S1,fdiv_min h1 h2 (show k4<w.toNat by omega),g4_0,g4_1,g4_6,g4_17,g4_18,hd1,hd2])
    (refine Ow.popM rfl ?_;simp only [S0,Nat.reduceEqDiff,S1,ix_ok (show k4<(w.toNat) by omega),g4_0,g4_1,g4_6,g4_17,g4_18,hd1,hd2])
    refine Ow.storeA (H0:=H) (j:=k4) (bb:=bx (ofI w.toNat n) k4) rfl (by simp only [S0,Nat.reduceEqDiff,S1,g4_0,g4_1,g4_6,g4_17,g4_18,hd1,hd2]) (by simp only [S0,Nat.reduceEqDiff,S1,g4_0,g4_1,g4_6,g4_17,g4_18,hd1,hd2]) m3 (by rw [preB_length,ofI_length];omega) hx4 hi3 ?_
    intro H5 b5 hx5 hn5 hk5 m3_5
    rw [preB_set (show k4<(ofI w.toNat n).length by rw [ofI_length];omega)] at m3_5
    refine Ow.nilM ⟨nofun,?_⟩
    show Cw _ _ _ _ _
    refine Cw.region ?_
    iterate 2 (refine Ow.popM rfl ?_;simp only [S0,Nat.reduceEqDiff,S1,show fwrap .i64 ((((k4:Nat):Int):Int)+(1:Int))=((k4+1:Nat):Int) from add_nat (a:=k4) (b:=1) (by omega),g4_0,g4_1,g4_6,g4_17,g4_18,hd1,hd2])
    refine Ow.nilM ⟨nofun,?_⟩
    exact ⟨hlt4,⟨(by simp only [S0,Nat.reduceEqDiff,S1,and_self,g4_0,g4_1,g4_6,g4_17,g4_18,hd1,hd2]),(by simp only [S0,Nat.reduceEqDiff,S1,and_self,g4_0,g4_1,g4_6,g4_17,g4_18,hd1,hd2]),(by simp only [S0,Nat.reduceEqDiff,S1,and_self,g4_0,g4_1,g4_6,g4_17,g4_18,hd1,hd2]),(by simp only [S0,Nat.reduceEqDiff,S1,and_self,g4_0,g4_1,g4_6,g4_17,g4_18,hd1,hd2]),(by simp only [S0,Nat.reduceEqDiff,S1,and_self,g4_0,g4_1,g4_6,g4_17,g4_18,hd1,hd2]<;>rfl)⟩,hx5,m3_5⟩
   ·obtain rfl:w.toNat=k4:=by omega
    have hfin:=m3
    rw [preB_full' (ofI_length _ _)] at hfin
    refine Cw.seq ?_
    refine Cw.region ?_
    (refine Ow.popM rfl ?_;simp only [S0,Nat.reduceEqDiff,S1,show decide ((((w.toNat:Nat):Int):Int)<(((w.toNat:Nat):Int):Int))=decide (w.toNat<w.toNat) from lt_dec (w.toNat) (w.toNat),show decide (w.toNat<w.toNat)=false from decide_eq_false (Nat.lt_irrefl _),g4_0,g4_1,g4_6,g4_17,g4_18,hd1,hd2])
    refine Ow.nilM ⟨nofun,?_⟩
    show Cw _ _ _ _ _
    refine Cw.seq ?_
    refine Cw.cond (t:=false) (by simp only [S0,Nat.reduceEqDiff,S1,g4_0,g4_1,g4_6,g4_17,g4_18,hd1,hd2]) ?_
    refine Cw.exit ?_
    show Cw _ _ _ _ _
    refine Cw.seq ?_
    refine Cw.region ?_
    iterate 3 (refine Ow.popM rfl ?_;simp only [S0,Nat.reduceEqDiff,S1,g4_0,g4_1,g4_6,g4_17,g4_18,hd1,hd2])
    refine Ow.nilM ⟨nofun,?_⟩
    show Cw _ _ _ _ _
    refine Cw.ret ?_
    simp only [Then,InBlock,Rnd,FnPost,resOf,tupled,S0,Nat.reduceEqDiff,g4_0,g4_1,g4_6,g4_17,g4_18,hd1,hd2]
    exact ⟨hx4,by rw [if_neg (by omega)];exact ⟨_,rfl,hfin.isR hi3⟩⟩
end
section
open Go Go.AL
variable {ext:Nat→Option (List Value→AH→Option (Value×AH))}
theorem wrap_u64 (x:Nat):IntKind.wrap .u64 (x:Int)=((x % 2^64:Nat):Int):=by
 have e:IntKind.wrap .u64 (x:Int)=(x:Int) % (2:Int)^64:=rfl
 rw [e]
 omega
theorem shl_u64 {k:Nat} (h:k<64):aShift .shl .u64 1 (k:Int)=some (.int .u64 ((2^k:Nat):Int)):=by
 unfold aShift
 rw [if_neg (by omega)]
 simp only [Int.toNat_natCast,show Nat.min k (IntKind.bits .u64)=k from Nat.min_eq_left (by show k≤64;omega),Int.one_mul]
 have e:((2:Int)^k)=((2^k:Nat):Int):=by push_cast;rfl
 rw [e,wrap_u64,Nat.mod_eq_of_lt (Nat.pow_lt_pow_right (by decide) h)]
theorem or_bit {X k:Nat} (hX:X<2^k):X ||| 2^k=X+2^k:=by
 have h:=Nat.two_pow_add_eq_or_of_lt hX 1
 rw [Nat.mul_one] at h
 rw [Nat.or_comm,←h,Nat.add_comm]
theorem or_u64 {X k:Nat} (hX:X<2^k) (hk:k<64):IntKind.wrap .u64 ((BitVec.ofInt (IntKind.bits .u64) (X:Int) ||| BitVec.ofInt (IntKind.bits .u64) ((2^k:Nat):Int)).toNat:Int)=((X+2^k:Nat):Int):=by
 have h64:2^k<2^64:=Nat.pow_lt_pow_right (by decide) hk
 have h2:2^k+2^k≤2^64:=by
  have:2^(k+1)≤2^64:=Nat.pow_le_pow_right (by decide) hk
  rw [Nat.pow_succ] at this
  omega
 have e:(BitVec.ofInt 64 (X:Int) ||| BitVec.ofInt 64 ((2^k:Nat):Int)).toNat=X+2^k:=by
  rw [BitVec.toNat_or,BitVec.ofInt_natCast,BitVec.ofInt_natCast,BitVec.toNat_ofNat,BitVec.toNat_ofNat,Nat.mod_eq_of_lt (by omega),Nat.mod_eq_of_lt h64,or_bit hX]
 rw [show IntKind.bits .u64=64 from rfl,e,wrap_u64,Nat.mod_eq_of_lt (by omega)]
theorem mod_bit (X k:Nat):X % 2^(k+1)=X % 2^k+2^k*(X.testBit k).toNat:=by
 rw [Nat.mod_pow_succ]
 congr 1
 rw [Nat.testBit_eq_decide_div_mod_eq]
 rcases Nat.mod_two_eq_zero_or_one (X / 2^k) with h | h<;>rw [h]<;>simp
theorem bit_ge {X k:Nat} (h:X.testBit k=true):2^k≤X:=by
 rcases Nat.lt_or_ge X (2^k) with h1 | h1
 ·rw [Nat.testBit_lt_two_pow h1] at h;cases h
 ·exact h1
theorem mod_64 {X k:Nat} (h:k<64):X % 2^(k+1)<2^64:=Nat.lt_of_lt_of_le (Nat.mod_lt _ (Nat.two_pow_pos _)) (Nat.pow_le_pow_right (by decide) h)
def uintV (l:List Bool):Value:=if val l<2^64 then .tuple ⟨[.int .u64 ((val l:Nat):Int),.bool true]⟩ else .tuple ⟨[.int .u64 0,.bool false]⟩
theorem bUint_any (hx:Ext0 ext) {H:AH} {va:Value} {la:List Bool} (fa:IsB H va la) (hla:la.length<2^34) :
  Run (Cx ext) 133 [va] H fun r H'=>AL.Ext H H'∧r=uintV la:=by
 refine Run.intro (fi:=IR.fi133) (hx 133 (by decide)) (by kernel_rfl) ?_
 unfold IR.fi133
 simp only [envOf_cons,envOf_nil]
 refine Cw.seq ?_
 refine Cw.region ?_
 iterate 2 (refine Ow.popM rfl ?_;simp only [S0,Nat.reduceEqDiff,S1])
 refine Ow.nilM ⟨nofun,?_⟩
 show Cw _ _ _ _ _
 refine Cw.seq ?_
 refine Cw.seq ?_
 refine Cw.region ?_
 (refine Ow.popM rfl ?_;simp only [S0,Nat.reduceEqDiff,S1])
 refine Ow.lenA rfl (by simp only [S0,Nat.reduceEqDiff,S1]) fa ?_
 (refine Ow.popM rfl ?_;simp only [S0,Nat.reduceEqDiff,S1])
 refine Ow.nilM ⟨nofun,?_⟩
 show Cw _ _ _ _ _
 refine Cw.block ?_
 refine Cw.loopI (la.length) (fun k E Hq=>(E.get 6=some (va)∧E.get 7=some (.int .i64 ((la.length:Nat):Int))∧E.get 8=some (.int .i64 ((k:Nat):Int))∧E.get 2=some (.int .u64 (((val la % 2^k:Nat):Int))))∧AL.Ext H Hq∧val la % 2^k<2^64) ⟨⟨(by simp only [S0,Nat.reduceEqDiff,S1,and_self]),(by simp only [S0,Nat.reduceEqDiff,S1,and_self]),(by simp only [S0,Nat.reduceEqDiff,eq_self]<;>first | rfl | simp [Nat.mod_one]),(by simp only [S0,Nat.reduceEqDiff,eq_self]<;>first | rfl | simp [Nat.mod_one])⟩,(AL.Ext.refl _),(by rw [Nat.pow_zero,Nat.mod_one];decide)⟩ ?_
 rintro k1 E1 H1 hk1 ⟨⟨g1_6,g1_7,g1_8,g1_2⟩,hx1,hsm⟩
 by_cases hlt1:k1<la.length
 ·skip
  refine Cw.seq ?_
  refine Cw.region ?_
  (refine Ow.popM rfl ?_;simp only [S0,Nat.reduceEqDiff,S1,show decide ((((k1:Nat):Int):Int)<(((la.length:Nat):Int):Int))=decide (k1<la.length) from lt_dec (k1) (la.length),show decide (k1<la.length)=true from decide_eq_true (hlt1),g1_6,g1_7,g1_8,g1_2])
  refine Ow.nilM ⟨nofun,?_⟩
  show Cw _ _ _ _ _
  refine Cw.seq ?_
  refine Cw.cond (t:=true) (by simp only [S0,Nat.reduceEqDiff,S1,g1_6,g1_7,g1_8,g1_2]) ?_
  refine Cw.skip ?_
  show Cw _ _ _ _ _
  refine Cw.seq ?_
  refine Cw.block ?_
  refine Cw.seq ?_
  refine Cw.region ?_
  (refine Ow.popM rfl ?_;simp only [S0,Nat.reduceEqDiff,S1,g1_6,g1_7,g1_8,g1_2])
  have fa_2:=fa.ext hx1
  refine Ow.rdA (k:=.i64) (b:=bx la (k1)) (n:=k1) rfl (fun p=>rfl) (by simp only [S0,Nat.reduceEqDiff,S1,g1_6,g1_7,g1_8,g1_2]) (by simp only [S0,Nat.reduceEqDiff,S1,g1_6,g1_7,g1_8,g1_2]) fa_2 (bx_lt (by omega)) ?_
  intro p3
  iterate 2 (refine Ow.popM rfl ?_;simp only [S0,Nat.reduceEqDiff,S1,g1_6,g1_7,g1_8,g1_2])
  refine Ow.nilM ⟨nofun,?_⟩
  show Cw _ _ _ _ _
  refine Cw.seq ?_
  refine Cw.seq ?_
  refine Cw.region ?_
  iterate 2 (refine Ow.popM rfl ?_;simp only [S0,Nat.reduceEqDiff,S1,g1_6,g1_7,g1_8,g1_2])
  cases hd4:(bx la (k1))
  ·skip
   refine Ow.pass (by simp only [S0,Nat.reduceEqDiff,S1,g1_6,g1_7,g1_8,g1_2,hd4]) ?_
   refine Ow.pass (by simp only [S0,Nat.reduceEqDiff,S1,g1_6,g1_7,g1_8,g1_2,hd4]) ?_
   (refine Ow.popM rfl ?_;simp only [S0,Nat.reduceEqDiff,S1,g1_6,g1_7,g1_8,g1_2,hd4])
   refine Ow.nilM ⟨nofun,?_⟩
   show Cw _ _ _ _ _
   refine Cw.cond (t:=false) (by simp only [S0,Nat.reduceEqDiff,S1,g1_6,g1_7,g1_8,g1_2,hd4]) ?_
   refine Cw.skip ?_
   show Cw _ _ _ _ _
   refine Cw.seq ?_
   refine Cw.region ?_
   (refine Ow.popM rfl ?_;simp only [S0,Nat.reduceEqDiff,S1,g1_6,g1_7,g1_8,g1_2,hd4])
   refine Ow.nilM ⟨nofun,?_⟩
   show Cw _ _ _ _ _
   refine Cw.cond (t:=false) (by simp only [S0,Nat.reduceEqDiff,S1,g1_6,g1_7,g1_8,g1_2,hd4]) ?_
   refine Cw.skip ?_
   show Cw _ _ _ _ _
   refine Cw.region ?_
   iterate 2 (refine Ow.popM rfl ?_;simp only [S0,Nat.reduceEqDiff,S1,show fwrap .i64 ((((k1:Nat):Int):Int)+(1:Int))=((k1+1:Nat):Int) from add_nat (a:=k1) (b:=1) (by omega),g1_6,g1_7,g1_8,g1_2,hd4])
   refine Ow.nilM ⟨nofun,?_⟩
   have e5:val la % 2^(k1+1)=val la % 2^k1:=by rw [mod_bit,val_bit,hd4];simp
   exact ⟨hlt1,⟨(by simp only [S0,Nat.reduceEqDiff,S1,and_self,g1_6,g1_7,g1_8,g1_2,hd4,e5]),(by simp only [S0,Nat.reduceEqDiff,S1,and_self,g1_6,g1_7,g1_8,g1_2,hd4,e5]),(by simp only [S0,Nat.reduceEqDiff,S1,and_self,g1_6,g1_7,g1_8,g1_2,hd4,e5]<;>rfl),(by simp only [S0,Nat.reduceEqDiff,S1,and_self,g1_6,g1_7,g1_8,g1_2,hd4,e5]<;>rfl)⟩,hx1,(by rw [e5];exact hsm)⟩
  ·skip
   iterate 3 (refine Ow.popM rfl ?_;simp only [S0,Nat.reduceEqDiff,S1,show decide ((((k1:Nat):Int):Int)≥(64:Int))=decide (64≤k1) from ge_dec (k1) (64),g1_6,g1_7,g1_8,g1_2,hd4])
   refine Ow.nilM ⟨nofun,?_⟩
   show Cw _ _ _ _ _
   by_cases hq6:64≤k1
   ·have hd6:decide (64≤k1)=true:=decide_eq_true hq6
    refine Cw.cond (t:=true) (by simp only [S0,Nat.reduceEqDiff,S1,g1_6,g1_7,g1_8,g1_2,hd4,hd6]) ?_
    refine Cw.seq ?_
    refine Cw.region ?_
    iterate 2 (refine Ow.popM rfl ?_;simp only [S0,Nat.reduceEqDiff,S1,g1_6,g1_7,g1_8,g1_2,hd4,hd6])
    refine Ow.nilM ⟨nofun,?_⟩
    show Cw _ _ _ _ _
    refine Cw.ret ?_
    simp only [Then,InBlock,Rnd,FnPost,resOf,tupled,S0,Nat.reduceEqDiff,g1_6,g1_7,g1_8,g1_2,hd4,hd6]
    refine ⟨hx1,?_⟩
    unfold uintV
    have hge:=bit_ge (X:=val la) (k:=k1) (by rw [val_bit];exact hd4)
    have h64:2^64≤2^k1:=Nat.pow_le_pow_right (by decide) (by omega)
    rw [if_neg (by omega)]
   ·have hd6:decide (64≤k1)=false:=decide_eq_false hq6
    refine Cw.cond (t:=false) (by simp only [S0,Nat.reduceEqDiff,S1,g1_6,g1_7,g1_8,g1_2,hd4,hd6]) ?_
    refine Cw.skip ?_
    show Cw _ _ _ _ _
    refine Cw.seq ?_
    refine Cw.region ?_
    (refine Ow.popM rfl ?_;simp only [S0,Nat.reduceEqDiff,S1,g1_6,g1_7,g1_8,g1_2,hd4,hd6])
    refine Ow.nilM ⟨nofun,?_⟩
    show Cw _ _ _ _ _
    refine Cw.cond (t:=true) (by simp only [S0,Nat.reduceEqDiff,S1,g1_6,g1_7,g1_8,g1_2,hd4,hd6]) ?_
    refine Cw.region ?_
    iterate 3 (refine Ow.popM rfl ?_;simp only [S0,Nat.reduceEqDiff,S1,shl_u64 (show k1<64 by omega),g1_6,g1_7,g1_8,g1_2,hd4,hd6])
    (refine Ow.popM rfl ?_;simp only [S0,Nat.reduceEqDiff,S1,or_u64 (Nat.mod_lt (val la) (Nat.two_pow_pos k1)) (show k1<64 by omega),g1_6,g1_7,g1_8,g1_2,hd4,hd6])
    (refine Ow.popM rfl ?_;simp only [S0,Nat.reduceEqDiff,S1,g1_6,g1_7,g1_8,g1_2,hd4,hd6])
    refine Ow.nilM ⟨nofun,?_⟩
    show Cw _ _ _ _ _
    refine Cw.region ?_
    iterate 2 (refine Ow.popM rfl ?_;simp only [S0,Nat.reduceEqDiff,S1,show fwrap .i64 ((((k1:Nat):Int):Int)+(1:Int))=((k1+1:Nat):Int) from add_nat (a:=k1) (b:=1) (by omega),g1_6,g1_7,g1_8,g1_2,hd4,hd6])
    refine Ow.nilM ⟨nofun,?_⟩
    have e7:val la % 2^(k1+1)=val la % 2^k1+2^k1:=by rw [mod_bit,val_bit,hd4];simp
    exact ⟨hlt1,⟨(by simp only [S0,Nat.reduceEqDiff,S1,and_self,g1_6,g1_7,g1_8,g1_2,hd4,hd6,e7]),(by simp only [S0,Nat.reduceEqDiff,S1,and_self,g1_6,g1_7,g1_8,g1_2,hd4,hd6,e7]),(by simp only [S0,Nat.reduceEqDiff,S1,and_self,g1_6,g1_7,g1_8,g1_2,hd4,hd6,e7]<;>rfl),(by simp only [S0,Nat.reduceEqDiff,S1,and_self,g1_6,g1_7,g1_8,g1_2,hd4,hd6,e7]<;>rfl)⟩,hx1,(mod_64 (by omega))⟩
 ·obtain rfl:la.length=k1:=by omega
  rw [Nat.mod_eq_of_lt (val_lt la)] at hsm g1_2
  refine Cw.seq ?_
  refine Cw.region ?_
  (refine Ow.popM rfl ?_;simp only [S0,Nat.reduceEqDiff,S1,show decide ((((la.length:Nat):Int):Int)<(((la.length:Nat):Int):Int))=decide (la.length<la.length) from lt_dec (la.length) (la.length),show decide (la.length<la.length)=false from decide_eq_false (Nat.lt_irrefl _),g1_6,g1_7,g1_8,g1_2])
  refine Ow.nilM ⟨nofun,?_⟩
  show Cw _ _ _ _ _
  refine Cw.seq ?_
  refine Cw.cond (t:=false) (by simp only [S0,Nat.reduceEqDiff,S1,g1_6,g1_7,g1_8,g1_2]) ?_
  refine Cw.exit ?_
  show Cw _ _ _ _ _
  refine Cw.seq ?_
  refine Cw.region ?_
  iterate 3 (refine Ow.popM rfl ?_;simp only [S0,Nat.reduceEqDiff,S1,g1_6,g1_7,g1_8,g1_2])
  refine Ow.nilM ⟨nofun,?_⟩
  show Cw _ _ _ _ _
  refine Cw.ret ?_
  simp only [Then,InBlock,Rnd,FnPost,resOf,tupled,S0,Nat.reduceEqDiff,g1_6,g1_7,g1_8,g1_2]
  refine ⟨hx1,?_⟩
  unfold uintV
  rw [if_pos hsm]
end
section
open Go Go.AL
variable {ext:Nat→Option (List Value→AH→Option (Value×AH))}
def intV (l:List Bool):Value:=if -(2:Int)^63≤sval l∧sval l<(2:Int)^63 then .tuple ⟨[.int .i64 (sval l),.bool true]⟩ else .tuple ⟨[.int .i64 0,.bool false]⟩
theorem shl_i64 {k:Nat} (h:k<63):aShift .shl .i64 1 (k:Int)=some (.int .i64 ((2^k:Nat):Int)):=by
 unfold aShift
 rw [if_neg (by omega)]
 simp only [Int.toNat_natCast,show Nat.min k (IntKind.bits .i64)=k from Nat.min_eq_left (by show k≤64;omega),Int.one_mul]
 have e:((2:Int)^k)=((2^k:Nat):Int):=by push_cast;rfl
 rw [e,wrap_small (Nat.pow_lt_pow_right (by decide) h)]
theorem or_i64 {X k:Nat} (hX:X<2^k) (hk:k<63):IntKind.wrap .i64 ((BitVec.ofInt (IntKind.bits .i64) (X:Int) ||| BitVec.ofInt (IntKind.bits .i64) ((2^k:Nat):Int)).toNat:Int)=((X+2^k:Nat):Int):=by
 have h2:2^k+2^k≤2^63:=by
  have:2^(k+1)≤2^63:=Nat.pow_le_pow_right (by decide) hk
  rw [Nat.pow_succ] at this
  omega
 have e:(BitVec.ofInt 64 (X:Int) ||| BitVec.ofInt 64 ((2^k:Nat):Int)).toNat=X+2^k:=by
  rw [BitVec.toNat_or,BitVec.ofInt_natCast,BitVec.ofInt_natCast,BitVec.toNat_ofNat,BitVec.toNat_ofNat,Nat.mod_eq_of_lt (by omega),Nat.mod_eq_of_lt (by omega),or_bit hX]
 rw [show IntKind.bits .i64=64 from rfl,e,wrap_small (by omega)]
theorem bx_big {l:List Bool} {j:Nat} (h:l.length≤j):bx l j=false:=bx_ge (by omega)
theorem high_bits {l:List Bool} {n:Nat} (b:Bool) (h:∀ j,n≤j→j<l.length→bx l j=b):val l / 2^n=if b then 2^(l.length-n)-1 else 0:=by
 apply Nat.eq_of_testBit_eq
 intro i
 rw [Nat.testBit_div_two_pow,val_bit]
 by_cases hi:i+n<l.length
 ·rw [h _ (by omega) hi]
  cases b with
  | true=>rw [if_pos rfl,Nat.testBit_two_pow_sub_one];simp;omega
  | false=>simp
 ·rw [bx_big (by omega)]
  cases b with
  | true=>rw [if_pos rfl,Nat.testBit_two_pow_sub_one];simp;omega
  | false=>simp
theorem sval_pos {l:List Bool} (h:ng l=false):sval l=(val l:Int):=by unfold sval absN;rw [h];rfl
theorem sval_neg {l:List Bool} (h:ng l=true):sval l=(val l:Int)-((2^l.length:Nat):Int):=by
 unfold sval absN
 have:=val_lt l
 rw [h,if_pos rfl,if_pos rfl,Int.ofNat_sub (by omega)]
 omega
theorem sval_high {l:List Bool} (hl:63≤l.length) (h:∀ j,63≤j→j<l.length→bx l j=ng l):sval l=((val l % 2^63:Nat):Int)-(if ng l then (2:Int)^63 else 0):=by
 have hb:=high_bits (n:=63) (ng l) h
 have hd:=Nat.div_add_mod (val l) (2^63)
 cases hn:ng l with
 | true=>
   rw [hn,if_pos rfl] at hb
   obtain ⟨d,hd2⟩:∃ d,l.length=63+d:=⟨l.length-63,by omega⟩
   have hp:=Nat.two_pow_pos d
   rw [sval_neg hn,if_pos rfl]
   have e:val l=2^63*2^d-2^63+val l % 2^63:=by
    rw [hb,hd2,Nat.add_sub_cancel_left,Nat.mul_sub,Nat.mul_one] at hd
    exact hd.symm
   rw [hd2,Nat.pow_add]
   have hge:2^63≤2^63*2^d:=Nat.le_mul_of_pos_right _ hp
   generalize 2^63*2^d=Q at *
   omega
 | false=>
   rw [hn] at hb
   rw [sval_pos hn]
   simp only [Bool.false_eq_true,if_false] at hb ⊢
   omega
theorem not_fit {l:List Bool} {k:Nat} (hk:63≤k) (hl:k<l.length) (h:(bx l k != bx l (l.length-1))=true):¬ (-(2:Int)^63≤sval l∧sval l<(2:Int)^63):=by
 have h63:2^63≤2^k:=Nat.pow_le_pow_right (by decide) hk
 have hv:=val_lt l
 have hng:bx l (l.length-1)=ng l:=rfl
 rw [hng] at h
 cases hn:ng l with
 | false=>
   rw [hn] at h
   have hb:bx l k=true:=by simpa using h
   have:=bit_ge (X:=val l) (k:=k) (by rw [val_bit];exact hb)
   rw [sval_pos hn]
   omega
 | true=>
   rw [hn] at h
   have hb:bx l k=false:=by simpa using h
   have hc:(2^l.length-(val l+1)).testBit k=true:=by
    rw [Nat.testBit_two_pow_sub_succ hv,val_bit,hb]
    simp [hl]
   have:=bit_ge hc
   rw [sval_neg hn]
   omega
theorem int_neg {n X:Nat} (h1:1≤n) (h2:n<64) (hX:X<2^n) (h3:2^(n-1)≤X):fwrap .i64 ((X:Int)-fwrap .i64 (((2^(n-1):Nat):Int)*2))=(X:Int)-((2^n:Nat):Int):=by
 obtain ⟨m,rfl⟩:∃ m,n=m+1:=⟨n-1,by omega⟩
 rw [Nat.add_sub_cancel] at h3 ⊢
 rw [Nat.pow_succ] at hX ⊢
 have hm:2^m≤2^62:=Nat.pow_le_pow_right (by decide) (by omega)
 generalize 2^m=Q at *
 have e2:∀ y:Int,fwrap .i64 y=if y % (2:Int)^64≥2^63 then y % (2:Int)^64-2^64 else y % (2:Int)^64:=fun y=>by
  rw [fwrap_eq]
  unfold IntKind.wrap
  simp only [show IntKind.bits .i64=64 from rfl,show IntKind.signed .i64=true from rfl,Bool.true_and,decide_eq_true_eq,Nat.reduceSub]
 rw [e2,e2]
 split<;>split<;>omega
theorem ng_half {l:List Bool} (h:ng l=true):2^(l.length-1)≤val l:=bit_ge (by rw [val_bit];exact h)
theorem ng_len {l:List Bool} (h:ng l=true):1≤l.length:=by
 rcases Nat.eq_zero_or_pos l.length with h0 | h0
 ·rw [ng_nil h0] at h;cases h
 ·exact h0
theorem fw64 {x:Int} (h1:-(2^63)≤x) (h2:x<2^63):fwrap .i64 x=x:=by
 rw [fwrap_eq]
 unfold IntKind.wrap
 simp only [show IntKind.bits .i64=64 from rfl,show IntKind.signed .i64=true from rfl,Bool.true_and,decide_eq_true_eq,Nat.reduceSub]
 split<;>omega
theorem bInt_any (hx:Ext0 ext) {H:AH} {va:Value} {la:List Bool} (fa:IsB H va la) (hla:la.length<2^33) :
  Run (Cx ext) 132 [va] H fun r H'=>AL.Ext H H'∧r=intV la:=by
 refine Run.intro (fi:=IR.fi132) (hx 132 (by decide)) (by kernel_rfl) ?_
 unfold IR.fi132
 simp only [envOf_cons,envOf_nil]
 refine Cw.seq ?_
 refine Cw.region ?_
 iterate 2 (refine Ow.popM rfl ?_;simp only [S0,Nat.reduceEqDiff,S1])
 refine Ow.nilM ⟨nofun,?_⟩
 show Cw _ _ _ _ _
 refine Cw.seq ?_
 refine Cw.region ?_
 (refine Ow.popM rfl ?_;simp only [S0,Nat.reduceEqDiff,S1])
 refine Ow.nilM ⟨nofun,?_⟩
 show Cw _ _ _ _ _
 refine Cw.seq ?_
 refine Cw.seq ?_
 refine Cw.region ?_
 (refine Ow.popM rfl ?_;simp only [S0,Nat.reduceEqDiff,S1])
 refine Ow.lenA rfl (by simp only [S0,Nat.reduceEqDiff,S1]) fa ?_
 (refine Ow.popM rfl ?_;simp only [S0,Nat.reduceEqDiff,S1])
 refine Ow.nilM ⟨nofun,?_⟩
 show Cw _ _ _ _ _
 refine Cw.block ?_
 refine Cw.loopI (la.length) (fun k E Hq=>(E.get 0=some (va)∧E.get 7=some (va)∧E.get 8=some (.int .i64 ((la.length:Nat):Int))∧E.get 9=some (.int .i64 ((k:Nat):Int))∧E.get 4=some (.int .i64 (((val la % 2^min k 63:Nat):Int))))∧AL.Ext H Hq∧(∀ j,63≤j→j<k→bx la j=ng la)) ⟨⟨(by simp only [S0,Nat.reduceEqDiff,S1,and_self]),(by simp only [S0,Nat.reduceEqDiff,S1,and_self]),(by simp only [S0,Nat.reduceEqDiff,S1,and_self]),(by simp only [S0,Nat.reduceEqDiff,eq_self]<;>first | rfl | simp [Nat.mod_one]),(by simp only [S0,Nat.reduceEqDiff,eq_self];simp [Nat.mod_one])⟩,(AL.Ext.refl _),(fun j h1 h2=>by omega)⟩ ?_
 rintro k1 E1 H1 hk1 ⟨⟨g1_0,g1_7,g1_8,g1_9,g1_4⟩,hx1,hs⟩
 by_cases hlt1:k1<la.length
 ·skip
  refine Cw.seq ?_
  refine Cw.region ?_
  (refine Ow.popM rfl ?_;simp only [S0,Nat.reduceEqDiff,S1,show decide ((((k1:Nat):Int):Int)<(((la.length:Nat):Int):Int))=decide (k1<la.length) from lt_dec (k1) (la.length),show decide (k1<la.length)=true from decide_eq_true (hlt1),g1_0,g1_7,g1_8,g1_9,g1_4])
  refine Ow.nilM ⟨nofun,?_⟩
  show Cw _ _ _ _ _
  refine Cw.seq ?_
  refine Cw.cond (t:=true) (by simp only [S0,Nat.reduceEqDiff,S1,g1_0,g1_7,g1_8,g1_9,g1_4]) ?_
  refine Cw.skip ?_
  show Cw _ _ _ _ _
  refine Cw.seq ?_
  refine Cw.block ?_
  refine Cw.seq ?_
  refine Cw.region ?_
  (refine Ow.popM rfl ?_;simp only [S0,Nat.reduceEqDiff,S1,g1_0,g1_7,g1_8,g1_9,g1_4])
  have fa_2:=fa.ext hx1
  refine Ow.rdA (k:=.i64) (b:=bx la (k1)) (n:=k1) rfl (fun p=>rfl) (by simp only [S0,Nat.reduceEqDiff,S1,g1_0,g1_7,g1_8,g1_9,g1_4]) (by simp only [S0,Nat.reduceEqDiff,S1,g1_0,g1_7,g1_8,g1_9,g1_4]) fa_2 (bx_lt (by omega)) ?_
  intro p3
  iterate 2 (refine Ow.popM rfl ?_;simp only [S0,Nat.reduceEqDiff,S1,g1_0,g1_7,g1_8,g1_9,g1_4])
  refine Ow.nilM ⟨nofun,?_⟩
  show Cw _ _ _ _ _
  refine Cw.seq ?_
  refine Cw.seq ?_
  refine Cw.region ?_
  iterate 3 (refine Ow.popM rfl ?_;simp only [S0,Nat.reduceEqDiff,S1,show decide ((((k1:Nat):Int):Int)≥(63:Int))=decide (63≤k1) from ge_dec (k1) (63),g1_0,g1_7,g1_8,g1_9,g1_4])
  by_cases hq4:63≤k1
  ·have hd4:decide (63≤k1)=true:=decide_eq_true hq4
   iterate 3 (refine Ow.popM rfl ?_;simp only [S0,Nat.reduceEqDiff,S1,g1_0,g1_7,g1_8,g1_9,g1_4,hd4])
   refine Ow.lenA (by simp only [S0,Nat.reduceEqDiff,S1,g1_0,g1_7,g1_8,g1_9,g1_4,hd4]) (by simp only [S0,Nat.reduceEqDiff,S1,g1_0,g1_7,g1_8,g1_9,g1_4,hd4]) fa_2 ?_
   (refine Ow.popM rfl ?_;simp only [S0,Nat.reduceEqDiff,S1,show fwrap .i64 ((((la.length:Nat):Int):Int)-(1:Int))=((la.length-1:Nat):Int) from sub_nat (a:=la.length) (b:=1) (by omega) (by omega),g1_0,g1_7,g1_8,g1_9,g1_4,hd4])
   refine Ow.rdA (k:=.i64) (b:=bx la (la.length-1)) (n:=la.length-1) (by simp only [S0,Nat.reduceEqDiff,S1,g1_0,g1_7,g1_8,g1_9,g1_4,hd4]) (fun p=>(by simp only [S0,Nat.reduceEqDiff,S1,g1_0,g1_7,g1_8,g1_9,g1_4,hd4])) (by simp only [S0,Nat.reduceEqDiff,S1,g1_0,g1_7,g1_8,g1_9,g1_4,hd4]) (by simp only [S0,Nat.reduceEqDiff,S1,g1_0,g1_7,g1_8,g1_9,g1_4,hd4]) fa_2 (bx_lt (by omega)) ?_
   intro p5
   iterate 2 (refine Ow.popM rfl ?_;simp only [S0,Nat.reduceEqDiff,S1,g1_0,g1_7,g1_8,g1_9,g1_4,hd4])
   refine Ow.nilM ⟨nofun,?_⟩
   show Cw _ _ _ _ _
   cases hd6:((bx la (k1) != bx la (la.length-1)))
   ·skip
    refine Cw.cond (t:=false) (by simp only [S0,Nat.reduceEqDiff,S1,g1_0,g1_7,g1_8,g1_9,g1_4,hd4,hd6]) ?_
    refine Cw.skip ?_
    show Cw _ _ _ _ _
    refine Cw.seq ?_
    refine Cw.region ?_
    iterate 2 (refine Ow.popM rfl ?_;simp only [S0,Nat.reduceEqDiff,S1,g1_0,g1_7,g1_8,g1_9,g1_4,hd4,hd6])
    cases hd7:(bx la (k1))
    ·skip
     refine Ow.pass (by simp only [S0,Nat.reduceEqDiff,S1,g1_0,g1_7,g1_8,g1_9,g1_4,hd4,hd6,hd7]) ?_
     refine Ow.pass (by simp only [S0,Nat.reduceEqDiff,S1,g1_0,g1_7,g1_8,g1_9,g1_4,hd4,hd6,hd7]) ?_
     (refine Ow.popM rfl ?_;simp only [S0,Nat.reduceEqDiff,S1,g1_0,g1_7,g1_8,g1_9,g1_4,hd4,hd6,hd7])
     refine Ow.nilM ⟨nofun,?_⟩
     show Cw _ _ _ _ _
     refine Cw.cond (t:=false) (by simp only [S0,Nat.reduceEqDiff,S1,g1_0,g1_7,g1_8,g1_9,g1_4,hd4,hd6,hd7]) ?_
     refine Cw.skip ?_
     show Cw _ _ _ _ _
     refine Cw.region ?_
     iterate 2 (refine Ow.popM rfl ?_;simp only [S0,Nat.reduceEqDiff,S1,show fwrap .i64 ((((k1:Nat):Int):Int)+(1:Int))=((k1+1:Nat):Int) from add_nat (a:=k1) (b:=1) (by omega),g1_0,g1_7,g1_8,g1_9,g1_4,hd4,hd6,hd7])
     refine Ow.nilM ⟨nofun,?_⟩
     have e8:val la % 2^min (k1+1) 63=val la % 2^min k1 63:=by rw [show min (k1+1) 63=63 by omega,show min k1 63=63 by omega]
     have hs:∀ j,63≤j→j<k1+1→bx la j=ng la:=fun j h1 h2=>by
      by_cases hj:j<k1
      ·exact hs j h1 hj
      ·obtain rfl:j=k1:=by omega
       exact bne_eq_false_iff_eq.1 hd6
     exact ⟨hlt1,⟨(by simp only [S0,Nat.reduceEqDiff,S1,and_self,g1_0,g1_7,g1_8,g1_9,g1_4,hd4,hd6,hd7,e8]),(by simp only [S0,Nat.reduceEqDiff,S1,and_self,g1_0,g1_7,g1_8,g1_9,g1_4,hd4,hd6,hd7,e8]),(by simp only [S0,Nat.reduceEqDiff,S1,and_self,g1_0,g1_7,g1_8,g1_9,g1_4,hd4,hd6,hd7,e8]),(by simp only [S0,Nat.reduceEqDiff,S1,and_self,g1_0,g1_7,g1_8,g1_9,g1_4,hd4,hd6,hd7,e8]<;>rfl),(by simp only [S0,Nat.reduceEqDiff,S1,and_self,g1_0,g1_7,g1_8,g1_9,g1_4,hd4,hd6,hd7,e8]<;>rfl)⟩,hx1,hs⟩
    ·skip
     iterate 3 (refine Ow.popM rfl ?_;simp only [S0,Nat.reduceEqDiff,S1,show decide ((((k1:Nat):Int):Int)<(63:Int))=decide (k1<63) from lt_dec (k1) (63),show decide (k1<63)=false from decide_eq_false (by omega),g1_0,g1_7,g1_8,g1_9,g1_4,hd4,hd6,hd7])
     refine Ow.nilM ⟨nofun,?_⟩
     show Cw _ _ _ _ _
     refine Cw.cond (t:=false) (by simp only [S0,Nat.reduceEqDiff,S1,g1_0,g1_7,g1_8,g1_9,g1_4,hd4,hd6,hd7]) ?_
     refine Cw.skip ?_
     show Cw _ _ _ _ _
     refine Cw.region ?_
     iterate 2 (refine Ow.popM rfl ?_;simp only [S0,Nat.reduceEqDiff,S1,show fwrap .i64 ((((k1:Nat):Int):Int)+(1:Int))=((k1+1:Nat):Int) from add_nat (a:=k1) (b:=1) (by omega),g1_0,g1_7,g1_8,g1_9,g1_4,hd4,hd6,hd7])
     refine Ow.nilM ⟨nofun,?_⟩
     have e9:val la % 2^min (k1+1) 63=val la % 2^min k1 63:=by rw [show min (k1+1) 63=63 by omega,show min k1 63=63 by omega]
     have hs:∀ j,63≤j→j<k1+1→bx la j=ng la:=fun j h1 h2=>by
      by_cases hj:j<k1
      ·exact hs j h1 hj
      ·obtain rfl:j=k1:=by omega
       exact bne_eq_false_iff_eq.1 hd6
     exact ⟨hlt1,⟨(by simp only [S0,Nat.reduceEqDiff,S1,and_self,g1_0,g1_7,g1_8,g1_9,g1_4,hd4,hd6,hd7,e9]),(by simp only [S0,Nat.reduceEqDiff,S1,and_self,g1_0,g1_7,g1_8,g1_9,g1_4,hd4,hd6,hd7,e9]),(by simp only [S0,Nat.reduceEqDiff,S1,and_self,g1_0,g1_7,g1_8,g1_9,g1_4,hd4,hd6,hd7,e9]),(by simp only [S0,Nat.reduceEqDiff,S1,and_self,g1_0,g1_7,g1_8,g1_9,g1_4,hd4,hd6,hd7,e9]<;>rfl),(by simp only [S0,Nat.reduceEqDiff,S1,and_self,g1_0,g1_7,g1_8,g1_9,g1_4,hd4,hd6,hd7,e9]<;>rfl)⟩,hx1,hs⟩
   ·skip
    refine Cw.cond (t:=true) (by simp only [S0,Nat.reduceEqDiff,S1,g1_0,g1_7,g1_8,g1_9,g1_4,hd4,hd6]) ?_
    refine Cw.seq ?_
    refine Cw.region ?_
    iterate 2 (refine Ow.popM rfl ?_;simp only [S0,Nat.reduceEqDiff,S1,g1_0,g1_7,g1_8,g1_9,g1_4,hd4,hd6])
    refine Ow.nilM ⟨nofun,?_⟩
    show Cw _ _ _ _ _
    refine Cw.ret ?_
    simp only [Then,InBlock,Rnd,FnPost,resOf,tupled,S0,Nat.reduceEqDiff,g1_0,g1_7,g1_8,g1_9,g1_4,hd4,hd6]
    refine ⟨hx1,?_⟩
    unfold intV
    rw [if_neg (not_fit (k:=k1) (by omega) (by omega) hd6)]
  ·have hd4:decide (63≤k1)=false:=decide_eq_false hq4
   refine Ow.pass (by simp only [S0,Nat.reduceEqDiff,S1,g1_0,g1_7,g1_8,g1_9,g1_4,hd4]) ?_
   refine Ow.pass (by simp only [S0,Nat.reduceEqDiff,S1,g1_0,g1_7,g1_8,g1_9,g1_4,hd4]) ?_
   refine Ow.pass (by simp only [S0,Nat.reduceEqDiff,S1,g1_0,g1_7,g1_8,g1_9,g1_4,hd4]) ?_
   refine Ow.pass (by simp only [S0,Nat.reduceEqDiff,S1,g1_0,g1_7,g1_8,g1_9,g1_4,hd4]) ?_
   refine Ow.pass (by simp only [S0,Nat.reduceEqDiff,S1,g1_0,g1_7,g1_8,g1_9,g1_4,hd4]) ?_
   refine Ow.pass (by simp only [S0,Nat.reduceEqDiff,S1,g1_0,g1_7,g1_8,g1_9,g1_4,hd4]) ?_
   refine Ow.pass (by simp only [S0,Nat.reduceEqDiff,S1,g1_0,g1_7,g1_8,g1_9,g1_4,hd4]) ?_
   refine Ow.pass (by simp only [S0,Nat.reduceEqDiff,S1,g1_0,g1_7,g1_8,g1_9,g1_4,hd4]) ?_
   (refine Ow.popM rfl ?_;simp only [S0,Nat.reduceEqDiff,S1,g1_0,g1_7,g1_8,g1_9,g1_4,hd4])
   refine Ow.nilM ⟨nofun,?_⟩
   show Cw _ _ _ _ _
   refine Cw.cond (t:=false) (by simp only [S0,Nat.reduceEqDiff,S1,g1_0,g1_7,g1_8,g1_9,g1_4,hd4]) ?_
   refine Cw.skip ?_
   show Cw _ _ _ _ _
   refine Cw.seq ?_
   refine Cw.region ?_
   iterate 2 (refine Ow.popM rfl ?_;simp only [S0,Nat.reduceEqDiff,S1,g1_0,g1_7,g1_8,g1_9,g1_4,hd4])
   cases hd10:(bx la (k1))
   ·skip
    refine Ow.pass (by simp only [S0,Nat.reduceEqDiff,S1,g1_0,g1_7,g1_8,g1_9,g1_4,hd4,hd10]) ?_
    refine Ow.pass (by simp only [S0,Nat.reduceEqDiff,S1,g1_0,g1_7,g1_8,g1_9,g1_4,hd4,hd10]) ?_
    (refine Ow.popM rfl ?_;simp only [S0,Nat.reduceEqDiff,S1,g1_0,g1_7,g1_8,g1_9,g1_4,hd4,hd10])
    refine Ow.nilM ⟨nofun,?_⟩
    show Cw _ _ _ _ _
    refine Cw.cond (t:=false) (by simp only [S0,Nat.reduceEqDiff,S1,g1_0,g1_7,g1_8,g1_9,g1_4,hd4,hd10]) ?_
    refine Cw.skip ?_
    show Cw _ _ _ _ _
    refine Cw.region ?_
    iterate 2 (refine Ow.popM rfl ?_;simp only [S0,Nat.reduceEqDiff,S1,show fwrap .i64 ((((k1:Nat):Int):Int)+(1:Int))=((k1+1:Nat):Int) from add_nat (a:=k1) (b:=1) (by omega),g1_0,g1_7,g1_8,g1_9,g1_4,hd4,hd10])
    refine Ow.nilM ⟨nofun,?_⟩
    have e11:val la % 2^min (k1+1) 63=val la % 2^k1:=by rw [show min (k1+1) 63=k1+1 by omega,mod_bit,val_bit,hd10];simp
    have e11b:min k1 63=k1:=by omega
    have hs:∀ j,63≤j→j<k1+1→bx la j=ng la:=fun j h1 h2=>by omega
    exact ⟨hlt1,⟨(by simp only [S0,Nat.reduceEqDiff,S1,and_self,g1_0,g1_7,g1_8,g1_9,g1_4,hd4,hd10,e11b,e11]),(by simp only [S0,Nat.reduceEqDiff,S1,and_self,g1_0,g1_7,g1_8,g1_9,g1_4,hd4,hd10,e11b,e11]),(by simp only [S0,Nat.reduceEqDiff,S1,and_self,g1_0,g1_7,g1_8,g1_9,g1_4,hd4,hd10,e11b,e11]),(by simp only [S0,Nat.reduceEqDiff,S1,and_self,g1_0,g1_7,g1_8,g1_9,g1_4,hd4,hd10,e11b,e11]<;>rfl),(by simp only [S0,Nat.reduceEqDiff,S1,and_self,g1_0,g1_7,g1_8,g1_9,g1_4,hd4,hd10,e11b,e11]<;>rfl)⟩,hx1,hs⟩
   ·skip
    iterate 3 (refine Ow.popM rfl ?_;simp only [S0,Nat.reduceEqDiff,S1,show decide ((((k1:Nat):Int):Int)<(63:Int))=decide (k1<63) from lt_dec (k1) (63),show decide (k1<63)=true from decide_eq_true (by omega),g1_0,g1_7,g1_8,g1_9,g1_4,hd4,hd10])
    refine Ow.nilM ⟨nofun,?_⟩
    show Cw _ _ _ _ _
    refine Cw.cond (t:=true) (by simp only [S0,Nat.reduceEqDiff,S1,g1_0,g1_7,g1_8,g1_9,g1_4,hd4,hd10]) ?_
    refine Cw.region ?_
    iterate 2 (refine Ow.popM rfl ?_;simp only [S0,Nat.reduceEqDiff,S1,g1_0,g1_7,g1_8,g1_9,g1_4,hd4,hd10])
    refine Ow.gen (fun E=>E.get 0=some (va)∧E.get 4=some (.int .i64 (((val la % 2^min k1 63:Nat):Int)))∧E.get 7=some (va)∧E.get 8=some (.int .i64 ((la.length:Nat):Int))∧E.get 9=some (.int .i64 ((k1:Nat):Int))∧E.get 31=some (.int .i64 (((val la % 2^min k1 63:Nat):Int)))∧E.get 32=some (.int .i64 ((k1:Nat):Int))) ⟨(by simp only [S0,Nat.reduceEqDiff,S1,and_self,g1_0,g1_7,g1_8,g1_9,g1_4,hd4,hd10]),(by simp only [S0,Nat.reduceEqDiff,S1,and_self,g1_0,g1_7,g1_8,g1_9,g1_4,hd4,hd10]),(by simp only [S0,Nat.reduceEqDiff,S1,and_self,g1_0,g1_7,g1_8,g1_9,g1_4,hd4,hd10]),(by simp only [S0,Nat.reduceEqDiff,S1,and_self,g1_0,g1_7,g1_8,g1_9,g1_4,hd4,hd10]),(by simp only [S0,Nat.reduceEqDiff,S1,and_self,g1_0,g1_7,g1_8,g1_9,g1_4,hd4,hd10]),(by simp only [S0,Nat.reduceEqDiff,S1,and_self,g1_0,g1_7,g1_8,g1_9,g1_4,hd4,hd10]),(by simp only [S0,Nat.reduceEqDiff,S1,and_self,g1_0,g1_7,g1_8,g1_9,g1_4,hd4,hd10])⟩ ?_
    rintro E12 ⟨g12_0,g12_4,g12_7,g12_8,g12_9,g12_31,g12_32⟩
    (refine Ow.popM rfl ?_;simp only [S0,Nat.reduceEqDiff,S1,shl_i64 (show k1<63 by omega),g12_0,g12_4,g12_7,g12_8,g12_9,g12_31,g12_32,hd4,hd10])
    (refine Ow.popM rfl ?_;simp only [S0,Nat.reduceEqDiff,S1,show min k1 63=k1 from Nat.min_eq_left (by omega),or_i64 (Nat.mod_lt (val la) (Nat.two_pow_pos k1)) (show k1<63 by omega),g12_0,g12_4,g12_7,g12_8,g12_9,g12_31,g12_32,hd4,hd10])
    (refine Ow.popM rfl ?_;simp only [S0,Nat.reduceEqDiff,S1,g12_0,g12_4,g12_7,g12_8,g12_9,g12_31,g12_32,hd4,hd10])
    refine Ow.nilM ⟨nofun,?_⟩
    show Cw _ _ _ _ _
    refine Cw.region ?_
    iterate 2 (refine Ow.popM rfl ?_;simp only [S0,Nat.reduceEqDiff,S1,show fwrap .i64 ((((k1:Nat):Int):Int)+(1:Int))=((k1+1:Nat):Int) from add_nat (a:=k1) (b:=1) (by omega),g12_0,g12_4,g12_7,g12_8,g12_9,g12_31,g12_32,hd4,hd10])
    refine Ow.nilM ⟨nofun,?_⟩
    have e13:val la % 2^min (k1+1) 63=val la % 2^k1+2^k1:=by rw [show min (k1+1) 63=k1+1 by omega,mod_bit,val_bit,hd10];simp
    have e13b:min k1 63=k1:=by omega
    have hs:∀ j,63≤j→j<k1+1→bx la j=ng la:=fun j h1 h2=>by omega
    exact ⟨hlt1,⟨(by simp only [S0,Nat.reduceEqDiff,S1,and_self,g12_0,g12_4,g12_7,g12_8,g12_9,g12_31,g12_32,hd4,hd10,e13b,e13]),(by simp only [S0,Nat.reduceEqDiff,S1,and_self,g12_0,g12_4,g12_7,g12_8,g12_9,g12_31,g12_32,hd4,hd10,e13b,e13]),(by simp only [S0,Nat.reduceEqDiff,S1,and_self,g12_0,g12_4,g12_7,g12_8,g12_9,g12_31,g12_32,hd4,hd10,e13b,e13]),(by simp only [S0,Nat.reduceEqDiff,S1,and_self,g12_0,g12_4,g12_7,g12_8,g12_9,g12_31,g12_32,hd4,hd10,e13b,e13]<;>rfl),(by simp only [S0,Nat.reduceEqDiff,S1,and_self,g12_0,g12_4,g12_7,g12_8,g12_9,g12_31,g12_32,hd4,hd10,e13b,e13]<;>rfl)⟩,hx1,hs⟩
 ·obtain rfl:la.length=k1:=by omega
  refine Cw.seq ?_
  refine Cw.region ?_
  (refine Ow.popM rfl ?_;simp only [S0,Nat.reduceEqDiff,S1,show decide ((((la.length:Nat):Int):Int)<(((la.length:Nat):Int):Int))=decide (la.length<la.length) from lt_dec (la.length) (la.length),show decide (la.length<la.length)=false from decide_eq_false (Nat.lt_irrefl _),g1_0,g1_7,g1_8,g1_9,g1_4])
  refine Ow.nilM ⟨nofun,?_⟩
  show Cw _ _ _ _ _
  refine Cw.seq ?_
  refine Cw.cond (t:=false) (by simp only [S0,Nat.reduceEqDiff,S1,g1_0,g1_7,g1_8,g1_9,g1_4]) ?_
  refine Cw.exit ?_
  show Cw _ _ _ _ _
  refine Cw.seq ?_
  refine Cw.seq ?_
  refine Cw.region ?_
  (refine Ow.popM rfl ?_;simp only [S0,Nat.reduceEqDiff,S1,g1_0,g1_7,g1_8,g1_9,g1_4])
  have fa_15:=fa.ext hx1
  refine Ow.callPA (k:=174) (fs:=[]) (cs:=[]) (vs:=[va]) rfl rfl (by simp only [S0,Nat.reduceEqDiff,S1,g1_0,g1_7,g1_8,g1_9,g1_4]) (negative_any hx fa_15.wl (by first | omega | (simp only [SL];omega))) ?_
  intro H14 hx14
  (refine Ow.popM rfl ?_;simp only [S0,Nat.reduceEqDiff,S1,g1_0,g1_7,g1_8,g1_9,g1_4])
  cases hd16:(bx la (la.length-1))
  ·skip
   refine Ow.pass (by simp only [S0,Nat.reduceEqDiff,S1,g1_0,g1_7,g1_8,g1_9,g1_4,hd16]) ?_
   refine Ow.pass (by simp only [S0,Nat.reduceEqDiff,S1,g1_0,g1_7,g1_8,g1_9,g1_4,hd16]) ?_
   refine Ow.pass (by simp only [S0,Nat.reduceEqDiff,S1,g1_0,g1_7,g1_8,g1_9,g1_4,hd16]) ?_
   (refine Ow.popM rfl ?_;simp only [S0,Nat.reduceEqDiff,S1,g1_0,g1_7,g1_8,g1_9,g1_4,hd16])
   refine Ow.nilM ⟨nofun,?_⟩
   show Cw _ _ _ _ _
   refine Cw.cond (t:=false) (by simp only [S0,Nat.reduceEqDiff,S1,g1_0,g1_7,g1_8,g1_9,g1_4,hd16]) ?_
   refine Cw.skip ?_
   show Cw _ _ _ _ _
   refine Cw.seq ?_
   refine Cw.seq ?_
   refine Cw.region ?_
   (refine Ow.popM rfl ?_;simp only [S0,Nat.reduceEqDiff,S1,g1_0,g1_7,g1_8,g1_9,g1_4,hd16])
   have fa_18:=fa_15.ext hx14
   refine Ow.callPA (k:=174) (fs:=[]) (cs:=[]) (vs:=[va]) rfl rfl (by simp only [S0,Nat.reduceEqDiff,S1,g1_0,g1_7,g1_8,g1_9,g1_4,hd16]) (negative_any hx fa_18.wl (by first | omega | (simp only [SL];omega))) ?_
   intro H17 hx17
   refine Ow.nilM ⟨nofun,?_⟩
   show Cw _ _ _ _ _
   refine Cw.cond (t:=false) (by simp only [S0,Nat.reduceEqDiff,S1,g1_0,g1_7,g1_8,g1_9,g1_4,hd16]) ?_
   refine Cw.skip ?_
   show Cw _ _ _ _ _
   refine Cw.seq ?_
   refine Cw.region ?_
   iterate 3 (refine Ow.popM rfl ?_;simp only [S0,Nat.reduceEqDiff,S1,g1_0,g1_7,g1_8,g1_9,g1_4,hd16])
   refine Ow.nilM ⟨nofun,?_⟩
   show Cw _ _ _ _ _
   refine Cw.ret ?_
   simp only [Then,InBlock,Rnd,FnPost,resOf,tupled,S0,Nat.reduceEqDiff,g1_0,g1_7,g1_8,g1_9,g1_4,hd16]
   refine ⟨((hx1.trans hx14).trans hx17),?_⟩
   unfold intV
   have hsg:ng la=false:=hd16
   have hv:=val_lt la
   by_cases h63:63≤la.length
   ·rw [sval_high h63 hs,hsg]
    have hmm:=Nat.mod_lt (val la) (Nat.two_pow_pos 63)
    simp only [Bool.false_eq_true,if_false,Int.sub_zero,Nat.min_eq_right h63]
    rw [if_pos (by omega)]
   ·have h62:2^la.length≤2^62:=Nat.pow_le_pow_right (by decide) (by omega)
    rw [sval_pos hsg,if_pos (by omega),Nat.min_eq_left (by omega),Nat.mod_eq_of_lt hv]
  ·skip
   (refine Ow.popM rfl ?_;simp only [S0,Nat.reduceEqDiff,S1,g1_0,g1_7,g1_8,g1_9,g1_4,hd16])
   have fa_19:=fa_15.ext hx14
   refine Ow.lenA (by simp only [S0,Nat.reduceEqDiff,S1,g1_0,g1_7,g1_8,g1_9,g1_4,hd16]) (by simp only [S0,Nat.reduceEqDiff,S1,g1_0,g1_7,g1_8,g1_9,g1_4,hd16]) fa_19 ?_
   iterate 2 (refine Ow.popM rfl ?_;simp only [S0,Nat.reduceEqDiff,S1,show decide ((((la.length:Nat):Int):Int)<(64:Int))=decide (la.length<64) from lt_dec (la.length) (64),g1_0,g1_7,g1_8,g1_9,g1_4,hd16])
   refine Ow.nilM ⟨nofun,?_⟩
   show Cw _ _ _ _ _
   by_cases hq20:la.length<64
   ·have hd20:decide (la.length<64)=true:=decide_eq_true hq20
    refine Cw.cond (t:=true) (by simp only [S0,Nat.reduceEqDiff,S1,g1_0,g1_7,g1_8,g1_9,g1_4,hd16,hd20]) ?_
    refine Cw.seq ?_
    refine Cw.region ?_
    iterate 2 (refine Ow.popM rfl ?_;simp only [S0,Nat.reduceEqDiff,S1,g1_0,g1_7,g1_8,g1_9,g1_4,hd16,hd20])
    refine Ow.lenA rfl (by simp only [S0,Nat.reduceEqDiff,S1,g1_0,g1_7,g1_8,g1_9,g1_4,hd16,hd20]) fa_19 ?_
    have hsl:=ng_len (l:=la) hd16
    iterate 2 (refine Ow.popM rfl ?_;simp only [S0,Nat.reduceEqDiff,S1,show fwrap .i64 ((((la.length:Nat):Int):Int)-(1:Int))=((la.length-1:Nat):Int) from sub_nat (a:=la.length) (b:=1) (by omega) (by omega),shl_i64 (show la.length-1<63 by omega),g1_0,g1_7,g1_8,g1_9,g1_4,hd16,hd20])
    (refine Ow.popM rfl ?_;simp only [S0,Nat.reduceEqDiff,S1,g1_0,g1_7,g1_8,g1_9,g1_4,hd16,hd20])
    have hsg:ng la=true:=hd16
    have hm:val la % 2^min la.length 63=val la:=by rw [show min la.length 63=la.length by omega,Nat.mod_eq_of_lt (val_lt la)]
    iterate 3 (refine Ow.popM rfl ?_;simp only [S0,Nat.reduceEqDiff,S1,hm,int_neg (ng_len hsg) (by omega) (val_lt la) (ng_half hsg),g1_0,g1_7,g1_8,g1_9,g1_4,hd16,hd20])
    refine Ow.nilM ⟨nofun,?_⟩
    show Cw _ _ _ _ _
    refine Cw.ret ?_
    simp only [Then,InBlock,Rnd,FnPost,resOf,tupled,S0,Nat.reduceEqDiff,g1_0,g1_7,g1_8,g1_9,g1_4,hd16,hd20]
    refine ⟨(hx1.trans hx14),?_⟩
    unfold intV
    have hsg:ng la=true:=hd16
    have hv:=val_lt la
    have hh:=ng_half hsg
    have h63:2^la.length≤2^63:=Nat.pow_le_pow_right (by decide) (by omega)
    have hp:2^la.length=2*2^(la.length-1):=by rw [←Nat.pow_succ',Nat.succ_eq_add_one,Nat.sub_add_cancel (ng_len hsg)]
    rw [sval_neg hsg,if_pos (by omega)]
   ·have hd20:decide (la.length<64)=false:=decide_eq_false hq20
    refine Cw.cond (t:=false) (by simp only [S0,Nat.reduceEqDiff,S1,g1_0,g1_7,g1_8,g1_9,g1_4,hd16,hd20]) ?_
    refine Cw.skip ?_
    show Cw _ _ _ _ _
    refine Cw.seq ?_
    refine Cw.seq ?_
    refine Cw.region ?_
    (refine Ow.popM rfl ?_;simp only [S0,Nat.reduceEqDiff,S1,g1_0,g1_7,g1_8,g1_9,g1_4,hd16,hd20])
    refine Ow.callPA (k:=174) (fs:=[]) (cs:=[]) (vs:=[va]) rfl rfl (by simp only [S0,Nat.reduceEqDiff,S1,g1_0,g1_7,g1_8,g1_9,g1_4,hd16,hd20]) (negative_any hx fa_19.wl (by first | omega | (simp only [SL];omega))) ?_
    intro H21 hx21
    refine Ow.nilM ⟨nofun,?_⟩
    show Cw _ _ _ _ _
    refine Cw.cond (t:=true) (by simp only [S0,Nat.reduceEqDiff,S1,g1_0,g1_7,g1_8,g1_9,g1_4,hd16,hd20]) ?_
    refine Cw.seq ?_
    refine Cw.region ?_
    (refine Ow.popM rfl ?_;simp only [S0,Nat.reduceEqDiff,S1,g1_0,g1_7,g1_8,g1_9,g1_4,hd16,hd20])
    have hmm:=Nat.mod_lt (val la) (Nat.two_pow_pos (min la.length 63))
    rw [show min la.length 63=63 by omega] at hmm
    have hmin:min la.length 63=63:=by omega
    iterate 4 (refine Ow.popM rfl ?_;simp only [S0,Nat.reduceEqDiff,S1,show fwrap .i64 (((val la % 2^63:Nat):Int)-4611686018427387904)=((val la % 2^63:Nat):Int)-4611686018427387904 from fw64 (by omega) (by omega),show fwrap .i64 (((val la % 2^63:Nat):Int)-4611686018427387904-4611686018427387904)=((val la % 2^63:Nat):Int)-4611686018427387904-4611686018427387904 from fw64 (by omega) (by omega),g1_0,g1_7,g1_8,g1_9,g1_4,hd16,hd20,hmin])
    refine Ow.nilM ⟨nofun,?_⟩
    show Cw _ _ _ _ _
    refine Cw.ret ?_
    simp only [Then,InBlock,Rnd,FnPost,resOf,tupled,S0,Nat.reduceEqDiff,g1_0,g1_7,g1_8,g1_9,g1_4,hd16,hd20,hmin]
    refine ⟨((hx1.trans hx14).trans hx21),?_⟩
    unfold intV
    have hsg:ng la=true:=hd16
    have hv:=val_lt la
    have hh:=ng_half hsg
    rw [sval_high (by omega) hs,hsg]
    simp only [if_true]
    rw [if_pos (by omega)]
    rw [show ((val la % 2^63:Nat):Int)-(2:Int)^63=((val la % 2^63:Nat):Int)-4611686018427387904-4611686018427387904 by omega]
end
section
open Go Go.AL
def Sg (w:Nat) (m:Int):Prop:=1≤w∧w≤64∧-(2:Int)^(w-1)≤m∧m<(2:Int)^(w-1)
theorem p2 (w:Nat):((2^w:Nat):Int)=(2:Int)^w:=by push_cast;rfl
variable {w:Nat} {m n:Int}
end
end Go.Proofs.YtdgbdkfoeaollaaGreatDoor.X
