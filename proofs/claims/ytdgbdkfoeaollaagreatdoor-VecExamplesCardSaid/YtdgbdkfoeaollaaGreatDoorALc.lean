/- An interpreter of Go code over a heap of its own, and the proof that the model does what it does (part c). -/
import Derived.Test.YtdgbdkfoeaollaaGreatDoorALb
section
set_option linter.unusedSimpArgs false
set_option linter.unusedVariables false
namespace Go.AL
def CallLe (c c':Call):Prop:=∀ f args H r,c f args H=some r→c' f args H=some r
theorem stepOp_mono {c c':Call} (h:CallLe c c') {E:Env} {H:AH} {i:IOp} {r:Value×AH} (hs:stepOp c E H i=some r):stepOp c' E H i=some r:=by
 cases i
 case call f args=>
  simp only [stepOp] at hs ⊢
  split at hs
  ·exact h _ _ _ _ hs
  ·cases hs
 all_goals exact hs
theorem evOps_mono {c c':Call} (h:CallLe c c'):∀ {is:List IOper} {E:Env} {H:AH} {r:Env×AH×List (Bool×Bool)},evOps c is E H=some r→evOps c' is E H=some r
 | [],E,H,r,he=>he
 | o::os,E,H,r,he=>by
   simp only [evOps,cond_eq_ite] at he ⊢
   split at he
   ·cases he
   ·rename_i hw
    try simp only [hw]
    split at he
    ·rename_i hwr
     rw [if_pos hwr]
     split at he
     ·cases he
     ·rename_i v H1 hs
      rw [stepOp_mono h hs]
      simp only
      split at he
      ·cases he
      ·rename_i E2 H2 fl hr
       rw [evOps_mono h hr]
       exact he
    ·rename_i hwr
     rw [if_neg hwr]
     split at he
     ·cases he
     ·rename_i v H1 hs
      rw [stepOp_mono h hs]
      simp only
      split at he
      ·cases he
      ·rename_i E2 H2 fl hr
       rw [evOps_mono h hr]
       exact he
   ·rename_i hw
    try simp only [hw]
    split at he
    ·cases he
    ·rename_i E2 H2 fl hr
     rw [evOps_mono h hr]
     exact he
abbrev CR:=Ctl×Env×AH
theorem loopN_mono {f f':Env→AH→Option CR} (h:∀ E H r,f E H=some r→f' E H=some r):∀ {n m:Nat} {E:Env} {H:AH} {r:CR},n≤m→loopN f n E H=some r→loopN f' m E H=some r
 | 0,m,E,H,r,_,he=>by cases he
 | n+1,0,E,H,r,hm,he=>by omega
 | n+1,m+1,E,H,r,hm,he=>by
   unfold loopN at he ⊢
   split at he
   ·rename_i E1 H1 h1
    rw [h _ _ _ h1]
    exact loopN_mono h (by omega) he
   ·rename_i hno
    rw [h _ _ _ he]
    obtain ⟨c,E1,H1⟩:=r
    cases c with
    | normal=>exact (hno _ _ he).elim
    | exit id=>rfl
    | ret=>rfl
theorem evC_mono {c c':Call} (h:CallLe c c') {n m:Nat} (hm:n≤m):∀ {ic:IC} {E:Env} {H:AH} {r:CR},evC c n ic E H=some r→evC c' m ic E H=some r
 | .skip,E,H,r,he=>he
 | .region dr is bits,E,H,r,he=>by
   simp only [evC] at he ⊢
   split at he
   ·cases he
   ·rename_i E1 H1 fl ho
    rw [evOps_mono h ho]
    simp only [cond_eq_ite] at he ⊢
    split at he
    ·rename_i hq
     rw [if_pos hq]
     exact he
    ·rename_i hq
     rw [if_neg hq]
     split at he
     ·cases he
     ·rename_i E2 H2 fl2 ho2
      rw [evOps_mono h ho2]
      exact he
 | .seq x y,E,H,r,he=>by
   simp only [evC] at he ⊢
   split at he
   ·rename_i E1 H1 h1
    rw [evC_mono h hm h1]
    exact evC_mono h hm he
   ·rename_i hno
    rw [evC_mono h hm he]
    obtain ⟨c,E1,H1⟩:=r
    cases c with
    | normal=>exact (hno _ _ he).elim
    | exit id=>rfl
    | ret=>rfl
 | .cond b x y,E,H,r,he=>by
   simp only [evC] at he ⊢
   split at he
   ·rename_i hb;(try simp only [hb]);exact evC_mono h hm he
   ·rename_i hb;(try simp only [hb]);exact evC_mono h hm he
   ·cases he
 | .block id b,E,H,r,he=>by
   simp only [evC] at he ⊢
   split at he
   ·rename_i k E1 H1 h1
    rw [evC_mono h hm h1]
    exact he
   ·rename_i hno
    rw [evC_mono h hm he]
    obtain ⟨c,E1,H1⟩:=r
    cases c with
    | exit k=>exact (hno _ _ _ he).elim
    | normal=>rfl
    | ret=>rfl
 | .loop b,E,H,r,he=>by
   simp only [evC] at he ⊢
   exact loopN_mono (fun E H r hr=>evC_mono h hm hr) hm he
 | .exit id,E,H,r,he=>he
 | .ret,E,H,r,he=>he
section
variable {ft:T FI} {ext:Nat→Option (List Value→AH→Option (Value×AH))}
theorem evF_mono1:∀ (n:Nat),CallLe (evF ft ext n) (evF ft ext (n+1))
 | 0=>fun f args H r h=>by cases h
 | n+1=>fun f args H r h=>by
   unfold evF at h ⊢
   split at h
   ·rename_i g hg;(try simp only [hg]);exact h
   ·rename_i hg
    try simp only [hg]
    split at h
    ·cases h
    ·rename_i fi hfi
     try simp only [hfi]
     split at h
     ·rename_i E' H' he
      rw [evC_mono (evF_mono1 n) (Nat.le_succ n) he]
      exact h
     ·rename_i E' H' he
      rw [evC_mono (evF_mono1 n) (Nat.le_succ n) he]
      exact h
     ·cases h
theorem evF_mono {n m:Nat} (h:n≤m):CallLe (evF ft ext n) (evF ft ext m):=by
 induction m with
 | zero=>have:n=0:=by omega
         subst this;exact fun _ _ _ _ h=>h
 | succ m ih=>
   by_cases hn:n=m+1
   ·subst hn;exact fun _ _ _ _ h=>h
   ·exact fun f args H r hr=>evF_mono1 m f args H r (ih (by omega) f args H r hr)
end
structure Ctx where
 ft:T FI
 ext:Nat→Option (List Value→AH→Option (Value×AH))
variable (C:Ctx)
def Run (f:Nat) (args:List Value) (H:AH) (Q:Value→AH→Prop):Prop:=∃ n v H',evF C.ft C.ext n f args H=some (v,H')∧Q v H'
def Cw (ic:IC) (E:Env) (H:AH) (Q:Ctl→Env→AH→Prop):Prop:=∃ n c E' H',evC (evF C.ft C.ext n) n ic E H=some (c,E',H')∧Q c E' H'
def Ow (is:List IOper) (E:Env) (H:AH) (Q:Env→AH→List (Bool×Bool)→Prop):Prop:=∃ n E' H' fl,evOps (evF C.ft C.ext n) is E H=some (E',H',fl)∧Q E' H' fl
section
variable {C:Ctx} {E:Env} {H:AH}
theorem Run.mono {f:Nat} {args:List Value} {Q Q':Value→AH→Prop} (h:Run C f args H Q) (hq:∀ v H',Q v H'→Q' v H'):Run C f args H Q':=by
 obtain ⟨n,v,H',h1,h2⟩:=h
 exact ⟨n,v,H',h1,hq _ _ h2⟩
theorem Cw.mono {ic:IC} {Q Q':Ctl→Env→AH→Prop} (h:Cw C ic E H Q) (hq:∀ c E' H',Q c E' H'→Q' c E' H'):Cw C ic E H Q':=by
 obtain ⟨n,c,E',H',h1,h2⟩:=h
 exact ⟨n,c,E',H',h1,hq _ _ _ h2⟩
theorem Ow.mono {is:List IOper} {Q Q':Env→AH→List (Bool×Bool)→Prop} (h:Ow C is E H Q) (hq:∀ E' H' fl,Q E' H' fl→Q' E' H' fl):Ow C is E H Q':=by
 obtain ⟨n,E',H',fl,h1,h2⟩:=h
 exact ⟨n,E',H',fl,h1,hq _ _ _ h2⟩
def FnPost (res:List IRes) (Q:Value→AH→Prop) (c:Ctl) (E:Env) (H:AH):Prop:=
 match c with
 | .exit _=>False
 | _=>match resOf E H res with
   | none=>False
   | some vs=>Q (tupled vs) H
theorem Run.intro {f:Nat} {fi:FI} {args:List Value} {Q:Value→AH→Prop} (hx:C.ext f=none) (hf:C.ft.get f=some fi) (h:Cw C fi.code (envOf args 0) H (FnPost fi.res Q)):Run C f args H Q:=by
 obtain ⟨n,c,E',H',h1,h2⟩:=h
 unfold FnPost at h2
 cases hr:resOf E' H' fi.res with
 | none=>cases c<;>simp [hr] at h2
 | some vs=>
   refine ⟨n+1,tupled vs,H',?_,?_⟩
   ·unfold evF
    simp only [hx,hf,h1]
    cases c with
    | normal=>simp [hr]
    | ret=>simp [hr]
    | exit id=>simp at h2
   ·cases c with
    | normal=>simpa [hr] using h2
    | ret=>simpa [hr] using h2
    | exit id=>simp at h2
theorem Run.ext {f:Nat} {g:List Value→AH→Option (Value×AH)} {args:List Value} {Q:Value→AH→Prop} {v:Value} {H':AH} (hx:C.ext f=some g) (hg:g args H=some (v,H')) (hq:Q v H'):Run C f args H Q:=
 ⟨1,v,H',by unfold evF;simp only [hx];exact hg,hq⟩
theorem Cw.skip {Q:Ctl→Env→AH→Prop} (h:Q .normal E H):Cw C .skip E H Q:=⟨0,_,_,_,rfl,h⟩
theorem Cw.exit {id:Nat} {Q:Ctl→Env→AH→Prop} (h:Q (.exit id) E H):Cw C (.exit id) E H Q:=⟨0,_,_,_,rfl,h⟩
theorem Cw.ret {Q:Ctl→Env→AH→Prop} (h:Q .ret E H):Cw C .ret E H Q:=⟨0,_,_,_,rfl,h⟩
def Then (C:Ctx) (b:IC) (Q:Ctl→Env→AH→Prop) (c:Ctl) (E:Env) (H:AH):Prop:=
 match c with
 | .normal=>Cw C b E H Q
 | .exit id=>Q (.exit id) E H
 | .ret=>Q .ret E H
theorem Cw.seq {a b:IC} {Q:Ctl→Env→AH→Prop} (h:Cw C a E H (Then C b Q)):Cw C (.seq a b) E H Q:=by
 obtain ⟨n,c,E1,H1,h1,h2⟩:=h
 cases c with
 | normal=>
   obtain ⟨m,c2,E2,H2,h3,h4⟩:=h2
   refine ⟨max n m,c2,E2,H2,?_,h4⟩
   simp only [evC]
   rw [evC_mono (evF_mono (Nat.le_max_left n m)) (Nat.le_max_left n m) h1]
   exact evC_mono (evF_mono (Nat.le_max_right n m)) (Nat.le_max_right n m) h3
 | exit id=>exact ⟨n,_,E1,H1,by simp only [evC,h1],h2⟩
 | ret=>exact ⟨n,_,E1,H1,by simp only [evC,h1],h2⟩
theorem Cw.cond {x:Operand} {a b:IC} {Q:Ctl→Env→AH→Prop} {t:Bool} (hx:ev E x=some (.bool t)) (h:if t=true then Cw C a E H Q else Cw C b E H Q):Cw C (.cond x a b) E H Q:=by
 cases t with
 | true=>obtain ⟨n,c,E1,H1,h1,h2⟩:=h;exact ⟨n,c,E1,H1,by simp only [evC,hx];exact h1,h2⟩
 | false=>obtain ⟨n,c,E1,H1,h1,h2⟩:=h;exact ⟨n,c,E1,H1,by simp only [evC,hx];exact h1,h2⟩
def InBlock (id:Nat) (Q:Ctl→Env→AH→Prop) (c:Ctl) (E:Env) (H:AH):Prop:=
 match c with
 | .exit k=>Q (bif k.beq id then .normal else .exit k) E H
 | c=>Q c E H
theorem Cw.block {id:Nat} {b:IC} {Q:Ctl→Env→AH→Prop} (h:Cw C b E H (InBlock id Q)):Cw C (.block id b) E H Q:=by
 obtain ⟨n,c,E1,H1,h1,h2⟩:=h
 cases c with
 | normal=>exact ⟨n,_,E1,H1,by simp only [evC,h1],h2⟩
 | exit k=>exact ⟨n,_,E1,H1,by simp only [evC,h1],h2⟩
 | ret=>exact ⟨n,_,E1,H1,by simp only [evC,h1],h2⟩
theorem Cw.loop {b:IC} {Q:Ctl→Env→AH→Prop} (h:Cw C b E H (Then C (.loop b) Q)):Cw C (.loop b) E H Q:=by
 obtain ⟨n,c,E1,H1,h1,h2⟩:=h
 cases c with
 | normal=>
   obtain ⟨m,c2,E2,H2,h3,h4⟩:=h2
   simp only [evC] at h3
   refine ⟨max n m+1,c2,E2,H2,?_,h4⟩
   simp only [evC]
   unfold loopN
   have e1:=evC_mono (ic:=b) (evF_mono (ft:=C.ft) (ext:=C.ext) (show n≤max n m+1 by omega)) (show n≤max n m+1 by omega) h1
   rw [e1]
   exact loopN_mono (fun E H r hr=>evC_mono (evF_mono (show m≤max n m+1 by omega)) (show m≤max n m+1 by omega) hr) (by omega) h3
 | exit id=>
   refine ⟨n+1,_,E1,H1,?_,h2⟩
   simp only [evC]
   unfold loopN
   rw [evC_mono (evF_mono (Nat.le_succ n)) (Nat.le_succ n) h1]
 | ret=>
   refine ⟨n+1,_,E1,H1,?_,h2⟩
   simp only [evC]
   unfold loopN
   rw [evC_mono (evF_mono (Nat.le_succ n)) (Nat.le_succ n) h1]
theorem Cw.region {dr:Bool} {is:List IOper} {bits:List Nat} {Q:Ctl→Env→AH→Prop} (h:Ow C is E H fun E' H' fl=>(dr=true→okDraw bits fl=true)∧Q .normal E' H'):Cw C (.region dr is bits) E H Q:=by
 obtain ⟨n,E1,H1,fl,h1,h2,h3⟩:=h
 refine ⟨n,_,E1,H1,?_,h3⟩
 simp only [evC,h1]
 cases dr with
 | false=>rfl
 | true=>simp [h2 rfl]
theorem stepOp_wl {c:Call} {E:Env} {H H1:AH} {op:IOp} {v:Value} {x:Nat} (hw:op.wrt=false) (h:stepOp c E { H with wl:=x } op=some (v,H1)):H1.wl=x∧∀ y,stepOp c E { H with wl:=y } op=some (v,{ H1 with wl:=y }):=by
 cases op<;>simp only [IOp.wrt,reduceCtorEq] at hw
 all_goals
  simp only [stepOp,IOp.touch,cond_true,cond_false] at h ⊢
 all_goals first
  | (split at h
     ·cases h
     ·rename_i u hu
      simp only [Option.some.injEq,Prod.mk.injEq] at h
      obtain ⟨rfl,rfl⟩:=h
      exact ⟨rfl,fun y=>by first | rfl | rw [hu]⟩)
  | (simp only [AL.hop,Option.some.injEq,Prod.mk.injEq] at h ⊢
     obtain ⟨rfl,rfl⟩:=h
     exact ⟨rfl,fun y=>⟨rfl,rfl⟩⟩)
  | (simp only [AL.hop] at h ⊢
     repeat' (split at h)
     all_goals first
      | (cases h;done)
      | (simp only [cond_eq_ite] at h ⊢
         split at h
         ·cases h
         ·rename_i hq
          simp only [Option.some.injEq,Prod.mk.injEq] at h
          obtain ⟨rfl,rfl⟩:=h
          refine ⟨rfl,fun y=>?_⟩
          simp_all [AH.new])
      | (simp only [Option.some.injEq,Prod.mk.injEq] at h
         obtain ⟨rfl,rfl⟩:=h
         refine ⟨rfl,fun y=>?_⟩
         simp_all [AH.new]))
theorem evOps_wl {c:Call}:∀ {is:List IOper} {E E1:Env} {H H1:AH} {fl:List (Bool×Bool)} {x:Nat},evOps c is E { H with wl:=x }=some (E1,H1,fl)→H1.wl≤x∧∀ z,∃ y,evOps c is E { H with wl:=z }=some (E1,{ H1 with wl:=y },fl)∧min z H1.wl≤y
 | [],E,E1,H,H1,fl,x,he=>by
   simp only [evOps,Option.some.injEq,Prod.mk.injEq] at he
   obtain ⟨rfl,rfl,rfl⟩:=he
   exact ⟨Nat.le_refl _,fun z=>⟨z,rfl,Nat.min_le_left _ _⟩⟩
 | o::os,E,E1,H,H1,fl,x,he=>by
   simp only [evOps,cond_eq_ite] at he
   split at he
   ·cases he
   ·rename_i hw
    split at he
    ·rename_i hwr
     split at he
     ·cases he
     ·rename_i v Hx hs
      split at he
      ·cases he
      ·rename_i E2 H2 f2 hr
       simp only [Option.some.injEq,Prod.mk.injEq] at he
       obtain ⟨rfl,rfl,rfl⟩:=he
       obtain ⟨h1,h2⟩:=evOps_wl hr
       refine ⟨by omega,fun z=>?_⟩
       obtain ⟨y,h3,h4⟩:=h2 (min z Hx.wl)
       refine ⟨y,?_,by omega⟩
       simp only [evOps,hw,hwr,cond_true]
       have hs':stepOp c E { H with wl:=H.n } o.op=some (v,Hx):=hs
       rw [hs']
       simp only [h3]
    ·rename_i hwr
     have hwr:o.op.wrt=false:=by simpa using hwr
     split at he
     ·cases he
     ·rename_i v Hx hs
      split at he
      ·cases he
      ·rename_i E2 H2 f2 hr
       simp only [Option.some.injEq,Prod.mk.injEq] at he
       obtain ⟨rfl,rfl,rfl⟩:=he
       obtain ⟨k1,k2⟩:=stepOp_wl hwr hs
       have hr':evOps c os (put E o.dst v) { Hx with wl:=x }=some (E2,H2,f2):=by rw [←k1];exact hr
       obtain ⟨h1,h2⟩:=evOps_wl hr'
       refine ⟨h1,fun z=>?_⟩
       obtain ⟨y,h3,h4⟩:=h2 z
       refine ⟨y,?_,h4⟩
       simp only [evOps,hw,hwr,cond_false,k2 z,h3]
   ·rename_i hw
    split at he
    ·cases he
    ·rename_i E2 H2 f2 hr
     simp only [Option.some.injEq,Prod.mk.injEq] at he
     obtain ⟨rfl,rfl,rfl⟩:=he
     obtain ⟨h1,h2⟩:=evOps_wl hr
     refine ⟨h1,fun z=>?_⟩
     obtain ⟨y,h3,h4⟩:=h2 z
     exact ⟨y,by simp only [evOps,hw,h3],h4⟩
theorem Cw.region3 {is:List IOper} {bits:List Nat} {Q:Ctl→Env→AH→Prop} (h:Ow C is E { H with wl:=H.n } fun E' H' fl=>okDraw bits (mark2 H.n E' H'.wl is fl is fl)=true∧∀ y,min H.wl H'.wl≤y→Q .normal E' { H' with wl:=y }):Cw C (.region true is bits) E H Q:=by
 obtain ⟨n,E1,H1,fl,h1,h3,h4⟩:=h
 obtain ⟨_,g⟩:=evOps_wl h1
 obtain ⟨y,g1,g2⟩:=g H.wl
 have g1:evOps (evF C.ft C.ext n) is E H=some (E1,{ H1 with wl:=y },fl):=g1
 cases hq:okDraw bits fl with
 | true=>exact ⟨n,_,E1,{ H1 with wl:=y },by simp only [evC,g1,hq,Bool.not_true,Bool.false_or,cond_true],h4 _ g2⟩
 | false=>
   cases hr:(Nat.ble H.n H1.wl&&okDraw bits (mark H.n E1 is fl)) with
   | true=>exact ⟨n,_,E1,{ H1 with wl:=min H.wl H1.wl },by simp only [evC,g1,h1,hq,hr,Bool.not_true,Bool.false_or,cond_true,cond_false],h4 _ (Nat.le_refl _)⟩
   | false=>exact ⟨n,_,E1,{ H1 with wl:=min H.wl H1.wl },by simp only [evC,g1,h1,hq,hr,h3,Bool.not_true,Bool.false_or,cond_true,cond_false],h4 _ (Nat.le_refl _)⟩
theorem Ow.nil {Q:Env→AH→List (Bool×Bool)→Prop} (h:Q E H []):Ow C [] E H Q:=⟨0,E,H,[],rfl,h⟩
theorem Ow.pop {d:Option Nat} {g:Option (Nat×Bool)} {i:IOp} {os:List IOper} {v:Value} {Q:Env→AH→List (Bool×Bool)→Prop} (hg:wanted E g=some true) (ht:i.touch=false) (hp:AL.pop E i=some v)
  (h:Ow C os (put E d v) H fun E' H' fl=>Q E' H' ((false,false)::fl)):Ow C (⟨d,g,i⟩::os) E H Q:=by
 obtain ⟨n,E1,H1,fl,h1,h2⟩:=h
 refine ⟨n,E1,H1,(false,false)::fl,?_,h2⟩
 have hs:stepOp (evF C.ft C.ext n) E H i=some (v,H):=by
  cases i<;>simp only [IOp.touch,reduceCtorEq] at ht
  all_goals simp only [stepOp,IOp.touch,cond_false,hp]
 have hw:i.wrt=false:=by cases i<;>first | rfl | (simp only [IOp.touch,reduceCtorEq] at ht)
 simp only [evOps,hg,hw,cond_false,hs,h1,ht]
theorem Ow.pass {d:Option Nat} {g:Option (Nat×Bool)} {i:IOp} {os:List IOper} {Q:Env→AH→List (Bool×Bool)→Prop} (hg:wanted E g=some false)
  (h:Ow C os (put E d undefA) H fun E' H' fl=>Q E' H' ((false,false)::fl)):Ow C (⟨d,g,i⟩::os) E H Q:=by
 obtain ⟨n,E1,H1,fl,h1,h2⟩:=h
 exact ⟨n,E1,H1,(false,false)::fl,by simp only [evOps,hg,h1],h2⟩
theorem Ow.hop {d:Option Nat} {g:Option (Nat×Bool)} {i:IOp} {os:List IOper} {v:Value} {H1:AH} {Q:Env→AH→List (Bool×Bool)→Prop} (hg:wanted E g=some true) (ht:i.touch=true) (hw:i.wrt=false) (hp:AL.hop E H i=some (v,H1))
  (h:Ow C os (put E d v) H1 fun E' H' fl=>Q E' H' ((true,false)::fl)):Ow C (⟨d,g,i⟩::os) E H Q:=by
 obtain ⟨n,E1,H2,fl,h1,h2⟩:=h
 refine ⟨n,E1,H2,(true,false)::fl,?_,h2⟩
 have hs:stepOp (evF C.ft C.ext n) E H i=some (v,H1):=by
  cases i<;>simp only [IOp.touch,IOp.wrt,reduceCtorEq] at ht hw
  all_goals simpa only [stepOp,IOp.touch,cond_true] using hp
 simp only [evOps,hg,hw,cond_false,hs,h1,ht]
theorem Ow.wop {d:Option Nat} {g:Option (Nat×Bool)} {i:IOp} {os:List IOper} {v:Value} {H1:AH} {b:Bool} {Q:Env→AH→List (Bool×Bool)→Prop} (hg:wanted E g=some true) (ht:i.touch=true) (hw:i.wrt=true) (hp:AL.hop E { H with wl:=H.n } i=some (v,H1))
  (hb:Nat.blt H1.wl H.n=b) (h:Ow C os (put E d v) { H1 with wl:=min H.wl H1.wl } fun E' H' fl=>Q E' H' ((true,b)::fl)):Ow C (⟨d,g,i⟩::os) E H Q:=by
 obtain ⟨n,E1,H2,fl,h1,h2⟩:=h
 refine ⟨n,E1,H2,(true,b)::fl,?_,h2⟩
 have hs:stepOp (evF C.ft C.ext n) E { H with wl:=H.n } i=some (v,H1):=by
  cases i<;>simp only [IOp.touch,IOp.wrt,reduceCtorEq] at ht hw
  all_goals first
   | (simpa only [stepOp,IOp.touch,cond_true] using hp)
   | (simp [AL.hop] at hp)
 simp only [evOps,hg,hw,cond_true,hs,h1,hb]
theorem Ow.call {d:Option Nat} {g:Option (Nat×Bool)} {f:Operand} {args:List Operand} {os:List IOper} {k:Nat} {fs cs vs:List Value} {R:Value→AH→Prop} {Q:Env→AH→List (Bool×Bool)→Prop} (hg:wanted E g=some true)
  (hf:ev E f=some (.func (.func k) ⟨fs⟩ ⟨cs⟩)) (ha:evs E args=some vs) (hc:Run C k (fs++(vs++cs)) { H with wl:=H.n } R)
  (h:∀ v H1,R v H1→∃ b,Nat.blt H1.wl H.n=b∧Ow C os (put E d v) { H1 with wl:=min H.wl H1.wl } fun E' H' fl=>Q E' H' ((true,b)::fl)):Ow C (⟨d,g,.call f args⟩::os) E H Q:=by
 obtain ⟨n,v,H1,h1,h2⟩:=hc
 obtain ⟨b,hb,m,E1,H2,fl,h3,h4⟩:=h v H1 h2
 refine ⟨max n m,E1,H2,(true,b)::fl,?_,h4⟩
 have hs:stepOp (evF C.ft C.ext (max n m)) E { H with wl:=H.n } (.call f args)=some (v,H1):=by
  simp only [stepOp,hf,ha]
  exact evF_mono (Nat.le_max_left n m) _ _ _ _ h1
 simp only [evOps,hg,IOp.wrt,cond_true,hs,evOps_mono (evF_mono (Nat.le_max_right n m)) h3,hb]
end
structure Ext (H H':AH):Prop where
 n:H.n≤H'.n
 get:∀ id,id<H.n→H'.t.get id=H.t.get id
 wl:min H.wl H.n≤H'.wl
theorem Ext.refl (H:AH):Ext H H:=⟨Nat.le_refl _,fun _ _=>rfl,Nat.min_le_left _ _⟩
theorem Ext.trans {H H1 H2:AH} (h:Ext H H1) (h':Ext H1 H2):Ext H H2:=
 ⟨Nat.le_trans h.n h'.n,fun id hid=>by rw [h'.get id (Nat.lt_of_lt_of_le hid h.n),h.get id hid],by have:=h.wl;have:=h'.wl;have:=h.n;omega⟩
theorem Ext.new {H H1:AH} (h:Ext H H1) (b:Blk):Ext H (H1.new b):=
 ⟨Nat.le_trans h.n (Nat.le_succ _),fun id hid=>by
  have hl:=Nat.lt_of_lt_of_le hid h.n
  simp only [AH.new]
  rw [T.get_set_ne _ _ (Nat.ne_of_lt hl),h.get id hid],h.wl⟩
theorem Ext.write {H H1:AH} (h:Ext H H1) {id:Nat} (hid:H.n≤id) (b:Blk):Ext H (H1.write id b):=
 ⟨h.n,fun j hj=>by
  simp only [AH.write]
  rw [T.get_set_ne _ _ (by omega),h.get j hj],by have:=h.wl;simp only [AH.write];omega⟩
theorem Ext.kill {H H1:AH} (h:Ext H H1) {id:Nat} (hid:H.n≤id):Ext H (H1.kill id):=
 ⟨h.n,fun j hj=>by
  simp only [AH.kill]
  rw [T.get_del,if_neg (by omega),h.get j hj],by have:=h.wl;simp only [AH.kill];omega⟩
theorem Ext.of_wl {H H1:AH} (h:Ext { H with wl:=H.n } H1):Ext H { H1 with wl:=min H.wl H1.wl }∧Nat.blt H1.wl H.n=false:=by
 have hw:min H.n H.n≤H1.wl:=h.wl
 refine ⟨⟨h.n,h.get,?_⟩,?_⟩
 ·show min H.wl H.n≤min H.wl H1.wl
  omega
 ·cases hb:Nat.blt H1.wl H.n with
  | false=>rfl
  | true=>have:=Nat.le_of_ble_eq_true hb;omega
theorem Ow.callE {C:Ctx} {E:Env} {H:AH} {d:Option Nat} {g:Option (Nat×Bool)} {f:Operand} {args:List Operand} {os:List IOper} {k:Nat} {fs cs vs:List Value} {R:Value→AH→Prop} {Q:Env→AH→List (Bool×Bool)→Prop} (hg:wanted E g=some true)
  (hf:ev E f=some (.func (.func k) ⟨fs⟩ ⟨cs⟩)) (ha:evs E args=some vs) (hc:Run C k (fs++(vs++cs)) { H with wl:=H.n } fun v H1=>Ext { H with wl:=H.n } H1∧R v H1)
  (h:∀ v H1 x,Ext H { H1 with wl:=x }→R v H1→Ow C os (put E d v) { H1 with wl:=x } fun E' H' fl=>Q E' H' ((true,false)::fl)):Ow C (⟨d,g,.call f args⟩::os) E H Q:=by
 refine Ow.call hg hf ha hc ?_
 rintro v H1 ⟨h1,h2⟩
 obtain ⟨h3,h4⟩:=Ext.of_wl h1
 exact ⟨false,h4,h v H1 _ h3 h2⟩
end Go.AL
end
section
set_option linter.unusedSimpArgs false
set_option linter.unusedVariables false
namespace Go.AL
section
variable {C:Ctx} {E:Env} {H:AH} {d:Option Nat} {g:Option (Nat×Bool)} {i:IOp} {os:List IOper} {Q:Env→AH→List (Bool×Bool)→Prop}
theorem Ow.popM (ht:i.touch=false)
  (h:match wanted E g with
   | some true=>(match AL.pop E i with | some v=>Ow C os (put E d v) H (fun E' H' fl=>Q E' H' ((false,false)::fl)) | none=>False)
   | some false=>Ow C os (put E d undefA) H (fun E' H' fl=>Q E' H' ((false,false)::fl))
   | none=>False):Ow C (⟨d,g,i⟩::os) E H Q:=by
 split at h
 ·rename_i hg
  split at h
  ·rename_i v hp;exact Ow.pop hg ht hp h
  ·exact h.elim
 ·rename_i hg;exact Ow.pass hg h
 ·exact h.elim
theorem Ow.hopM (ht:i.touch=true) (hw:i.wrt=false)
  (h:match wanted E g with
   | some true=>(match AL.hop E H i with | some (v,H1)=>Ow C os (put E d v) H1 (fun E' H' fl=>Q E' H' ((true,false)::fl)) | none=>False)
   | some false=>Ow C os (put E d undefA) H (fun E' H' fl=>Q E' H' ((false,false)::fl))
   | none=>False):Ow C (⟨d,g,i⟩::os) E H Q:=by
 split at h
 ·rename_i hg
  split at h
  ·rename_i v H1 hp;exact Ow.hop hg ht hw hp h
  ·exact h.elim
 ·rename_i hg;exact Ow.pass hg h
 ·exact h.elim
theorem Ow.nilM (h:Q E H []):Ow C [] E H Q:=Ow.nil h
theorem get_putS (E:Env) (d t:Nat) (v:Value):(put E (some d) v).get t=if d=t then some v else E.get t:=by
 rw [get_put];simp only [Option.some.injEq]
theorem get_putN (E:Env) (t:Nat) (v:Value):(put E none v).get t=E.get t:=rfl
theorem envOf_cons (v:Value) (vs:List Value) (k:Nat):envOf (v::vs) k=put (envOf vs (k+1)) (some k) v:=rfl
theorem envOf_nil (k:Nat):envOf [] k=.nil:=rfl
theorem get_nilS (t:Nat):(T.nil:Env).get t=none:=rfl
theorem Ow.store1 {a x:Operand} {ad:Addr} {v:Value} {bk:Blk} {b:Bool} (hg:wanted E g=some true) (ha:ev E a=some (.pointer (some ad))) (hx:ev E x=some v) (hc:cellsOf v=[v]) (hs:scalar v=true)
  (hb:H.t.get ad.block=some bk) (hk:bk.kind≠1) (ho:ad.off<bk.cells.length) (hf:Nat.blt (min H.n ad.block) H.n=b)
  (h:∀ wl,wl=min H.wl (min H.n ad.block)→Ow C os (put E d (.tuple ⟨[]⟩)) { (H.write ad.block { bk with cells:=bk.cells.set ad.off v }) with wl:=wl } (fun E' H' fl=>Q E' H' ((true,b)::fl))):Ow C (⟨d,g,.store 1 a x⟩::os) E H Q:=by
 refine Ow.wop (v:=.tuple ⟨[]⟩) (H1:=({ H with wl:=H.n }:AH).write ad.block { bk with cells:=bk.cells.set ad.off v }) hg rfl rfl ?_ hf (h _ rfl)
 have hkb:bk.kind.beq 1=false:=beq_ne hk
 have hput:putCells bk.cells ad.off [v]=some (bk.cells.set ad.off v):=by
  unfold putCells
  have hle:Nat.ble (ad.off+1) bk.cells.length=true:=Nat.ble_eq_true_of_le ho
  simp only [List.length_cons,List.length_nil,Nat.zero_add,hle,cond_true,Option.some.injEq]
  rw [List.set_eq_take_append_cons_drop,if_pos ho]
  simp
 simp only [AL.hop,ha,hx,hb,hc,hkb,hs,hput,List.length_cons,List.length_nil,Nat.zero_add,List.all_cons,List.all_nil,Bool.and_self,Bool.not_true,Bool.or_false,show Nat.beq 1 1=true from rfl,cond_false,Bool.false_or]
def IsB (H:AH) (v:Value) (l:List Bool):Prop:=
 ∃ a cap,v=.slice a l.length cap∧(cap=UC∨l.length≤cap)∧(l≠[]→∃ ad bk,a=some ad∧ad.block<H.n∧H.t.get ad.block=some bk∧∀ i b,l[i]?=some b→bk.cells[ad.off+i]?=some (.bool b))
theorem IsB.ext {H H':AH} {v:Value} {l:List Bool} (h:IsB H v l) (he:Ext H H'):IsB H' v l:=by
 obtain ⟨a,cap,rfl,hc,h2⟩:=h
 refine ⟨a,cap,rfl,hc,fun hl=>?_⟩
 obtain ⟨ad,bk,h3,h4,h5,h6⟩:=h2 hl
 exact ⟨ad,bk,h3,Nat.lt_of_lt_of_le h4 he.n,by rw [he.get _ h4];exact h5,h6⟩
theorem IsB.nil (H:AH):IsB H (.slice none 0 0) []:=⟨none,0,rfl,.inr (Nat.le_refl _),fun h=>absurd rfl h⟩
theorem IsB.at {H:AH} {v:Value} {l:List Bool} {n:Nat} {b:Bool} (h:IsB H v l) (hb:l[n]?=some b):∃ ad cap bk,v=.slice (some ad) l.length cap∧ad.block<H.n∧H.t.get ad.block=some bk∧bk.cells[ad.off+n]?=some (.bool b):=by
 obtain ⟨a,cap,rfl,_,h2⟩:=h
 obtain ⟨ad,bk,rfl,h4,h5,h6⟩:=h2 (fun e=>by subst e;simp at hb)
 exact ⟨ad,cap,bk,rfl,h4,h5,h6 n b hb⟩
theorem IsB.shape {H:AH} {v:Value} {l:List Bool} (h:IsB H v l):∃ a cap,v=.slice a l.length cap:=by
 obtain ⟨a,cap,rfl,_⟩:=h
 exact ⟨a,cap,rfl⟩
theorem lt_true {a b:Nat} (h:a<b):decide ((a:Int)<(b:Int))=true:=by simp;exact h
theorem lt_false {a b:Nat} (h:¬ a<b):decide ((a:Int)<(b:Int))=false:=by simp;omega
theorem ix_ok {a b:Nat} (h:a<b):((0:Int)≤(a:Int)∧(a:Int)<(b:Int))=True:=by simp;exact h
theorem fw_succ {a:Nat} (h:a<2^62):fwrap .i64 ((a:Int)+1)=((a+1:Nat):Int):=by
 unfold fwrap
 have:inKind .i64 ((a:Int)+1)=true:=by
  have e:((a:Int)+1)=Int.ofNat (a+1):=rfl
  rw [e]
  show Nat.blt (a+1) 9223372036854775808=true
  exact Nat.ble_eq_true_of_le (by omega)
 rw [this];rfl
theorem IsB.wl {H:AH} {v:Value} {l:List Bool} {x:Nat} (h:IsB H v l):IsB { H with wl:=x } v l:=h
def IsM (H:AH) (v:Value) (l:List Bool) (id:Nat):Prop:=v=.slice (some ⟨id,0,none⟩) l.length l.length∧id<H.n∧H.t.get id=some ⟨l.map .bool,0⟩
theorem IsM.isB {H:AH} {v:Value} {l:List Bool} {id:Nat} (h:IsM H v l id):IsB H v l:=by
 obtain ⟨rfl,h2,h3⟩:=h
 refine ⟨_,_,rfl,.inr (Nat.le_refl _),fun _=>⟨_,_,rfl,h2,h3,fun i b hb=>?_⟩⟩
 simp [hb]
def IsR (H0 H:AH) (v:Value) (l:List Bool):Prop:=
 (v=.slice none 0 0∧l=[])∨∃ id off cap bk,v=.slice (some ⟨id,off,none⟩) l.length cap∧(cap=UC∨l.length≤cap)∧H0.n≤id∧id<H.n∧H.t.get id=some bk∧bk.kind≠1∧off+l.length≤bk.cells.length∧(∀ i b,l[i]?=some b→bk.cells[off+i]?=some (.bool b))∧∀ c∈bk.cells,∃ b,c=.bool b
theorem IsR.isB {H0 H:AH} {v:Value} {l:List Bool} (h:IsR H0 H v l):IsB H v l:=by
 rcases h with ⟨rfl,rfl⟩ | ⟨id,off,cap,bk,rfl,hc,h1,h2,h3,h4,h5,h6⟩
 ·exact IsB.nil H
 ·exact ⟨_,_,rfl,hc,fun _=>⟨_,bk,rfl,h2,h3,h6.1⟩⟩
theorem IsM.isR {H0 H:AH} {v:Value} {l:List Bool} {id:Nat} (h:IsM H v l id) (h0:H0.n≤id):IsR H0 H v l:=by
 obtain ⟨rfl,h2,h3⟩:=h
 refine .inr ⟨id,0,_,_,rfl,.inr (Nat.le_refl _),h0,h2,h3,by simp,by simp,fun i b hb=>by simp [hb],fun c hc=>by obtain ⟨b,_,rfl⟩:=List.mem_map.1 hc;exact ⟨b,rfl⟩⟩
theorem IsR.ext {H0 H H':AH} {v:Value} {l:List Bool} (h:IsR H0 H v l) (he:Ext H H'):IsR H0 H' v l:=by
 rcases h with h | ⟨id,off,cap,bk,rfl,hc,h1,h2,h3,h4,h5,h6⟩
 ·exact .inl h
 ·exact .inr ⟨id,off,cap,bk,rfl,hc,h1,Nat.lt_of_lt_of_le h2 he.n,by rw [he.get _ h2];exact h3,h4,h5,h6⟩
def IsG (H0 H:AH) (v:Value) (l:List Bool):Prop:=
 (v=.slice none 0 0∧l=[])∨∃ id,v=.slice (some ⟨id,0,none⟩) l.length UC∧H0.n≤id∧id<H.n∧H.t.get id=some ⟨l.map .bool,3⟩
theorem IsG.isR {H0 H:AH} {v:Value} {l:List Bool} (h:IsG H0 H v l):IsR H0 H v l:=by
 rcases h with h | ⟨id,rfl,h0,h2,h3⟩
 ·exact .inl h
 ·exact .inr ⟨id,0,UC,_,rfl,.inl rfl,h0,h2,h3,by simp,by simp,fun i b hb=>by simp [hb],fun c hc=>by obtain ⟨b,_,rfl⟩:=List.mem_map.1 hc;exact ⟨b,rfl⟩⟩
theorem IsG.ext {H0 H H':AH} {v:Value} {l:List Bool} (h:IsG H0 H v l) (he:Ext H H'):IsG H0 H' v l:=by
 rcases h with h | ⟨id,rfl,h0,h2,h3⟩
 ·exact .inl h
 ·exact .inr ⟨id,rfl,h0,Nat.lt_of_lt_of_le h2 he.n,by rw [he.get _ h2];exact h3⟩
theorem Ow.rd {C:Ctx} {E:Env} {H:AH} {d1 d2:Nat} {os:List IOper} {Q:Env→AH→List (Bool×Bool)→Prop} {x y:Operand} {v:Value} {l:List Bool} {n:Nat} {b:Bool} {k:IntKind}
  (hx:ev E x=some v) (hy:ev E y=some (.int k (n:Int))) (hv:IsB H v l) (hb:l[n]?=some b)
  (h:∀ p,Ow C os (put (put E (some d1) (.pointer (some p))) (some d2) (.bool b)) H fun E' H' fl=>Q E' H' ((false,false)::(true,false)::fl)) :
  Ow C (⟨some d1,none,.indexAddr 1 none x y⟩::⟨some d2,none,.load none (.tmp d1)⟩::os) E H Q:=by
 obtain ⟨a,cap,rfl,_,h2⟩:=hv
 have hlt:=(List.getElem?_eq_some_iff.1 hb).1
 obtain ⟨ad,bk,rfl,h4,h5,h6⟩:=h2 (fun e=>by subst e;simp at hb)
 have hp:AL.pop E (.indexAddr 1 none x y)=some (.pointer (some ⟨ad.block,ad.off+n,none⟩)):=by
  have:(0:Int)≤(n:Int)∧(n:Int)<(l.length:Int):=by omega
  simp only [AL.pop,hx,hy,this,and_self,if_true,addOff,Int.toNat_natCast,Nat.mul_one]
 refine Ow.pop rfl rfl hp (Ow.hop rfl rfl rfl ?_ (h _))
 simp only [AL.hop,ev,get_putS,if_true,h5,AL.part,h6 n b hb]
end
end Go.AL
end
section
set_option linter.unusedSimpArgs false
set_option linter.unusedVariables false
namespace Go.AL
def Rnd (n:Nat) (I:Nat→Env→AH→Prop) (k:Nat) (Q:Ctl→Env→AH→Prop) (c:Ctl) (E:Env) (H:AH):Prop:=
 match c with
 | .normal=>k<n∧I (k+1) E H
 | .exit id=>Q (.exit id) E H
 | .ret=>Q .ret E H
theorem Cw.loopI {C:Ctx} {E:Env} {H:AH} {b:IC} {Q:Ctl→Env→AH→Prop} (n:Nat) (I:Nat→Env→AH→Prop) (h0:I 0 E H)
  (h:∀ k E H,k≤n→I k E H→Cw C b E H (Rnd n I k Q)):Cw C (.loop b) E H Q:=by
 have main:∀ d k E H,k+d=n→I k E H→Cw C (.loop b) E H Q:=by
  intro d
  induction d with
  | zero=>
    intro k E H hk hi
    refine Cw.loop ((h k E H (by omega) hi).mono fun c E' H' hr=>?_)
    cases c with
    | normal=>obtain ⟨h1,_⟩:=hr;omega
    | exit id=>exact hr
    | ret=>exact hr
  | succ d ih=>
    intro k E H hk hi
    refine Cw.loop ((h k E H (by omega) hi).mono fun c E' H' hr=>?_)
    cases c with
    | normal=>exact ih (k+1) E' H' (by omega) hr.2
    | exit id=>exact hr
    | ret=>exact hr
 exact main n 0 E H (by omega) h0
theorem blt_self (n:Nat):Nat.blt n n=false:=by
 cases h:Nat.blt n n with
 | false=>rfl
 | true=>exact absurd (Nat.le_of_ble_eq_true h) (by omega)
theorem map_rep (n:Nat):(List.range (n*1)).map (fun i=>([Value.bool false]:List Value).getD (i % 1) (.tuple ⟨[]⟩))=(List.replicate n false).map .bool:=by
 rw [Nat.mul_one]
 apply List.ext_getElem?
 intro i
 by_cases h:i<n<;>simp [h,Nat.mod_one]
theorem takeCells_eq {cs l:List Value} {off:Nat} (h:∀ i,i<l.length→cs[off+i]?=l[i]?):takeCells cs off l.length=some l:=by
 have e:(cs.drop off).take l.length=l:=by
  apply List.ext_getElem?
  intro i
  by_cases hi:i<l.length
  ·rw [List.getElem?_take,if_pos hi,List.getElem?_drop,h i hi]
  ·rw [List.getElem?_take,if_neg hi,List.getElem?_eq_none (by omega)]
 unfold takeCells
 simp only [e,Nat.beq_refl,cond_true]
section
variable {C:Ctx} {E:Env} {H:AH} {d:Option Nat} {g:Option (Nat×Bool)} {os:List IOper} {Q:Env→AH→List (Bool×Bool)→Prop}
theorem Ow.makeB {x:Operand} {k:IntKind} {n:Nat} {y:Nat} (hg:wanted E g=some true) (hx:ev E x=some (.int k (n:Int))) (hn:n≤2^40)
  (h:Ow C os (put E d (.slice (some ⟨H.n,0,none⟩) n n)) (H.new ⟨(List.replicate n false).map .bool,0⟩) fun E' H' fl=>Q E' H' ((true,false)::fl)) :
  Ow C (⟨d,g,.make 1 y [.bool false] x x⟩::os) E H Q:=by
 refine Ow.hop hg rfl rfl (v:=.slice (some ⟨H.n,0,none⟩) n n) (H1:=H.new ⟨(List.replicate n false).map .bool,0⟩) ?_ h
 have c:(0:Int)≤(n:Int)∧(n:Int)≤(n:Int)∧(n:Int)≤2^40:=⟨by omega,by omega,by exact_mod_cast hn⟩
 simp only [AL.hop,hx,if_pos c,Int.toNat_natCast,map_rep]
theorem all_bools (l:List Bool):(l.map Value.bool).all scalar=true:=by
 rw [List.all_eq_true]
 intro c hc
 obtain ⟨b,_,rfl⟩:=List.mem_map.1 hc
 rfl
theorem ble_false {a b:Nat} (h:b<a):Nat.ble a b=false:=by
 cases hb:Nat.ble a b with
 | false=>rfl
 | true=>exact absurd (Nat.le_of_ble_eq_true hb) (by omega)
theorem beq_zero {n:Nat} (h:n≠0):n.beq 0=false:=by
 cases n with
 | zero=>exact absurd rfl h
 | succ n=>rfl
theorem beq_false {a b:Nat} (h:a≠b):a.beq b=false:=by
 cases hq:a.beq b with
 | false=>rfl
 | true=>exact absurd (Nat.eq_of_beq_eq_true hq) h
end
end Go.AL
end
section
set_option linter.unusedSimpArgs false
set_option linter.unusedVariables false
namespace Go.AL
structure RowAt (W:World) (A:Option Addr) (len c:Nat) (cs:List Value):Prop where
 nil:A=none→len=0∧c=0
 zero:len=0↔cs=[]
 le:len≤c
 lt:c<UC
 plain:cs.all plainS=true
 at_:len≠0→∃ a,A=some a∧a.spot=none∧∃ arr el fz,W.heap[a.block]?=some (.cells arr el fz)∧∀ i v,cs[i]?=some v→arr[a.off+i]?=some v
structure Row where
 A:Option Addr
 len:Nat
 cap:Nat
 cs:List Value
def Row.val (i:Nat) (r:Row):Value:=
 match r.A with
 | none=>.slice none 0 0
 | some a=>.slice (some ⟨i,a.off,none⟩) r.len r.cap
def Row.blk (r:Row):Blk:=
 match r.A with
 | none=>⟨[],1⟩
 | some a=>⟨List.replicate a.off (.chan none)++r.cs,1⟩
def rowT:Nat→List Row→T Blk
 | _,[]=>.nil
 | k,r::rs=>(rowT (k+1) rs).set k r.blk
def rowH (rs:List Row):AH:=⟨rowT 0 rs,rs.length,rs.length⟩
def rowβ (rs:List Row):BM:=fun i=>match rs[i]? with
 | some r=>(match r.A with
   | some a=>if r.len=0 then none else some ⟨a.block,0,0⟩
   | none=>none)
 | none=>none
theorem rowT_get:∀ (rs:List Row) (k i:Nat),(rowT k rs).get (k+i)=rs[i]?.map Row.blk
 | [],k,i=>rfl
 | r::rs,k,0=>by
   unfold rowT
   show ((rowT (k+1) rs).set k r.blk).get k=_
   rw [T.get_set_self];rfl
 | r::rs,k,i+1=>by
   unfold rowT
   rw [T.get_set_ne _ _ (by omega),show k+(i+1)=k+1+i by omega,rowT_get rs (k+1) i]
   rfl
theorem rowH_get (rs:List Row) (i:Nat):(rowH rs).t.get i=rs[i]?.map Row.blk:=by
 have:=rowT_get rs 0 i
 rw [Nat.zero_add] at this
 exact this
def RowsAt (W:World) (rs:List Row):Prop:=∀ (i:Nat) (r:Row),rs[i]?=some r→RowAt W r.A r.len r.cap r.cs
theorem rows_relG {P:Program} {W:World} {rs:List Row} (hG:P.globals.size≤rs.length) (hg:∀ g,g<P.globals.size→rowβ rs g=some ⟨g,0,0⟩) (h:RowsAt W rs):Rel P (rowβ rs) (rowH rs) W where
 lt:=fun id bk hb=>by
  rw [rowH_get] at hb
  cases hr:rs[id]? with
  | none=>rw [hr] at hb;cases hb
  | some r=>exact (List.getElem?_eq_some_iff.1 hr).1
 glt:=hG
 glob:=hg
 blk:=fun id bi bk hβ hb=>by
  rw [rowH_get] at hb
  cases hr:rs[id]? with
  | none=>rw [hr] at hb;cases hb
  | some r=>
    rw [hr] at hb
    obtain rfl:=Option.some.inj hb
    unfold rowβ at hβ
    rw [hr] at hβ
    simp only at hβ
    have hrow:=h id r hr
    split at hβ
    ·rename_i a ha
     split at hβ
     ·cases hβ
     ·rename_i hl
      obtain rfl:=Option.some.inj hβ
      obtain ⟨a',ha',hs,arr,el,fz,hw,hc⟩:=hrow.at_ hl
      rw [ha] at ha'
      obtain rfl:=Option.some.inj ha'
      refine ⟨arr,el,fz,hw,?_,?_,?_⟩
      ·have hsz:a.off+r.cs.length≤arr.toList.length:=by
        cases hcs:r.cs.length with
        | zero=>
          exact absurd (hrow.zero.2 (List.length_eq_zero_iff.1 hcs)) hl
        | succ n=>
          have hi:r.cs[n]?=some (r.cs[n]'(by omega)):=List.getElem?_eq_getElem (by omega)
          have:=(Array.getElem?_eq_some_iff.1 (hc n _ hi)).1
          simp only [Array.length_toList]
          omega
       refine ⟨arr.toList.drop (a.off+r.cs.length),arr.toList.take (a.off+r.cs.length),(List.take_append_drop _ _).symm,?_⟩
       unfold Row.blk
       rw [ha]
       refine VRs.of_get (by simp only [List.length_append,List.length_replicate,List.length_take];omega) (fun i v w hv hw'=>?_)
       by_cases hi:i<a.off
       ·rw [List.getElem?_append_left (by simpa using hi),List.getElem?_replicate,if_pos hi] at hv
        obtain rfl:=Option.some.inj hv
        exact .junk w
       ·rw [List.getElem?_append_right (by simpa using hi),List.length_replicate] at hv
        have hlt:=(List.getElem?_eq_some_iff.1 hv).1
        have h1:=hc _ _ hv
        rw [show a.off+(i-a.off)=i by omega] at h1
        rw [List.getElem?_take,if_pos (by omega),Array.getElem?_toList,h1] at hw'
        obtain rfl:=Option.some.inj hw'
        have:=VRs.plain (β:=rowβ rs) hrow.plain
        obtain ⟨u,hu,hvr⟩:=this.get hv
        rw [hv] at hu
        obtain rfl:=Option.some.inj hu
        exact hvr
      ·intro hk;exact absurd (by unfold Row.blk;rw [ha]) hk
      ·intro s hk
       unfold Row.blk at hk
       rw [ha] at hk
       simp only at hk
       omega
    ·cases hβ
 inj:=fun i j bi bj ki kj hi hj hbi hbj hb hk=>by
  rw [rowH_get] at hi hj
  have one:∀ (n:Nat) (k:Blk),rs[n]?.map Row.blk=some k→k.kind=1:=by
   intro n k hn
   obtain ⟨r,_,rfl⟩:=Option.map_eq_some_iff.1 hn
   unfold Row.blk
   split<;>rfl
  rcases hk with hk | hk
  ·exact absurd (one _ _ hi) hk
  ·exact absurd (one _ _ hj) hk
theorem row_val {W:World} {rs:List Row} (h:RowsAt W rs) {i:Nat} {r:Row} (hr:rs[i]?=some r):VR (rowβ rs) (r.val i) (.slice r.A r.len r.cap):=by
 have hrow:=h i r hr
 unfold Row.val
 cases ha:r.A with
 | none=>
   obtain ⟨h1,h2⟩:=hrow.nil ha
   rw [h1,h2]
   exact .snil
 | some a=>
   simp only
   by_cases hl:r.len=0
   ·rw [hl]
    exact .sl0 i a.off r.cap a hrow.lt
   ·obtain ⟨a',ha',hs,_⟩:=hrow.at_ hl
    rw [ha] at ha'
    obtain rfl:=Option.some.inj ha'
    have hb:rowβ rs i=some ⟨a.block,0,0⟩:=by
     unfold rowβ
     rw [hr]
     simp only [ha,if_neg hl]
    have:=VR.sl (β:=rowβ rs) a.off r.len r.cap hb hrow.le hrow.lt
    obtain ⟨b,o,s⟩:=a
    simp only at hs
    subst hs
    exact this
theorem law_callsG {P:Program} (hm:P.follows .mixedOrders=true) {C:Ctx} (hft:∀ f fi,C.ft.get f=some fi→cfunc P f=some fi) (hext:∀ f g,C.ext f=some g→SimG P f g) {W:World} {rs:List Row} (hG:P.globals.size≤rs.length) (hg:∀ g,g<P.globals.size→rowβ rs g=some ⟨g,0,0⟩) (h:RowsAt W rs) {f:Nat} {args cargs:List Value}
  (hargs:VRs (rowβ rs) args cargs) (hrun:Run C f args (rowH rs) fun r _=>r=.bool true):Calls P f ⟨cargs⟩ W fun e W'=>e=.returned (.bool true)∧Go.RowKit.Below W.heap.size W W':=by
 obtain ⟨n,v,H',hev,rfl⟩:=hrun
 refine top_calls (evF_sim hm hft hext n) rfl hev hargs (rows_relG hG hg h) (fun id hid=>?_) (fun id bk hb=>?_)
 ·unfold rowβ
  rw [List.getElem?_eq_none hid]
 ·rw [rowH_get] at hb
  obtain ⟨r,_,rfl⟩:=Option.map_eq_some_iff.1 hb
  unfold Row.blk
  split<;>rfl
def TabAt (W:World) (g:Nat) (vs:List Value):Prop:=∀ (i:Nat) (v:Value),vs[i]?=some v→W.cell? ⟨g,i,none⟩=some v
def tabRow (g:Nat) (vs:List Value):Row:=⟨some ⟨g,0,none⟩,vs.length,vs.length,vs⟩
theorem tab_row {W:World} {g:Nat} {vs:List Value} (h:TabAt W g vs) (hne:vs≠[]) (hp:vs.all plainS=true) (hl:vs.length<UC):RowAt W (tabRow g vs).A (tabRow g vs).len (tabRow g vs).cap (tabRow g vs).cs where
 nil:=fun h=>by cases h
 zero:=⟨fun h=>List.length_eq_zero_iff.1 h,fun h=>by show vs.length=0;rw [show vs=[] from h];rfl⟩
 le:=Nat.le_refl _
 lt:=hl
 plain:=hp
 at_:=fun _=>by
  obtain ⟨v0,hv0⟩:∃ v,vs[0]?=some v:=⟨_,List.getElem?_eq_getElem (List.length_pos_iff.2 hne)⟩
  have h0:=h 0 v0 hv0
  unfold World.cell? at h0
  split at h0
  ·rename_i arr el fz hw
   refine ⟨_,rfl,rfl,arr,el,fz,hw,fun i v hv=>?_⟩
   have h1:=h i v hv
   unfold World.cell? at h1
   have hw':W.heap[(⟨g,i,none⟩:Addr).block]?=some (.cells arr el fz):=hw
   rw [hw'] at h1
   show arr[0+i]?=some v
   rw [Nat.zero_add]
   simpa using h1
  ·cases h0
theorem tab_β {rs:List Row} {g:Nat} {vs:List Value} (h:rs[g]?=some (tabRow g vs)) (hne:vs≠[]):rowβ rs g=some ⟨g,0,0⟩:=by
 unfold rowβ
 rw [h]
 have:(tabRow g vs).len≠0:=fun e=>hne (List.length_eq_zero_iff.1 e)
 exact if_neg (c:=(tabRow g vs).len=0) this
end Go.AL
end
section
set_option linter.unusedSimpArgs false
set_option linter.unusedVariables false
namespace Go.AL
section
variable {C:Ctx} {E:Env} {H:AH} {d:Option Nat} {g:Option (Nat×Bool)} {i:IOp} {os:List IOper} {Q:Env→AH→List (Bool×Bool)→Prop}
theorem Ow.makeA {x:Operand} {k:IntKind} {n:Nat} {y:Nat} (hg:wanted E g=some true) (hx:ev E x=some (.int k (n:Int))) (hn:n≤2^40)
  (h:∀ H' id,Ext H H'→H.n≤id→IsM H' (.slice (some ⟨id,0,none⟩) n n) (List.replicate n false) id→Ow C os (put E d (.slice (some ⟨id,0,none⟩) n n)) H' fun E' H' fl=>Q E' H' ((true,false)::fl)) :
  Ow C (⟨d,g,.make 1 y [.bool false] x x⟩::os) E H Q:=
 Ow.makeB hg hx hn (h _ H.n ((Ext.refl H).new _) (Nat.le_refl _) ⟨by rw [List.length_replicate],Nat.lt_succ_self _,T.get_set_self _ _ _⟩)
theorem Ow.callPA {f:Operand} {args:List Operand} {k:Nat} {fs cs vs:List Value} {w:Value} (hg:wanted E g=some true)
  (hf:ev E f=some (.func (.func k) ⟨fs⟩ ⟨cs⟩)) (ha:evs E args=some vs) (hc:Run C k (fs++(vs++cs)) { H with wl:=H.n } fun v H1=>H1={ H with wl:=H.n }∧v=w)
  (h:∀ H',Ext H H'→Ow C os (put E d w) H' fun E' H' fl=>Q E' H' ((true,false)::fl)):Ow C (⟨d,g,.call f args⟩::os) E H Q:=by
 refine Ow.callE (R:=fun v H1=>v=w) hg hf ha (hc.mono fun v H1 hr=>⟨by rw [hr.1];exact Ext.refl _,hr.2⟩) ?_
 rintro v H1 x hx rfl
 exact h _ hx
theorem Ext.mark {H0 H:AH} (h:Ext H0 H):Ext H0 { H with wl:=H.n }:=⟨h.n,h.get,by have:=h.n;show min H0.wl H0.n≤H.n;omega⟩
theorem IsM.set {H:AH} {v:Value} {l:List Bool} {id:Nat} (h:IsM H v l id):v=.slice (some ⟨id,0,none⟩) l.length l.length:=h.1
theorem IsM.ext {H H':AH} {v:Value} {l:List Bool} {id:Nat} (h:IsM H v l id) (he:Ext H H'):IsM H' v l id:=by
 obtain ⟨h1,h2,h3⟩:=h
 exact ⟨h1,Nat.lt_of_lt_of_le h2 he.n,by rw [he.get _ h2];exact h3⟩
theorem Ow.storeA {H0:AH} {a x:Operand} {id j:Nat} {l:List Bool} {v:Value} {bb:Bool} (hg:wanted E g=some true) (ha:ev E a=some (.pointer (some ⟨id,j,none⟩))) (hx:ev E x=some (.bool bb)) (hm:IsM H v l id) (hj:j<l.length) (h0:Ext H0 H) (hid:H0.n≤id)
  (h:∀ H' b,Ext H0 H'→H'.n=H.n→(∀ k,k≠id→H'.t.get k=H.t.get k)→IsM H' v (l.set j bb) id→Ow C os (put E d (.tuple ⟨[]⟩)) H' fun E' H'' fl=>Q E' H'' ((true,b)::fl)) :
  Ow C (⟨d,g,.store 1 a x⟩::os) E H Q:=by
 obtain ⟨q1,q2,q3⟩:=hm
 refine Ow.store1 (b:=Nat.blt (min H.n id) H.n) (ad:=⟨id,j,none⟩) (v:=.bool bb) hg ha hx rfl rfl q3 (by simp) (by simpa using hj) rfl ?_
 intro wl hwl
 have n0:=h0.n
 have w0:=h0.wl
 refine h _ _ ⟨n0,?_,?_⟩ rfl ?_ ⟨by rw [List.length_set];exact q1,q2,?_⟩
 ·intro k hk
  show (H.t.set id _).get k=_
  rw [T.get_set_ne _ _ (by omega)];exact h0.get k hk
 ·show _≤wl
  rw [hwl]
  show min H0.wl H0.n≤min H.wl (min H.n id)
  omega
 ·intro k hk
  show (H.t.set id _).get k=_
  rw [T.get_set_ne _ _ hk]
 ·show (H.t.set id _).get id=_
  rw [T.get_set_self,List.map_set]
theorem IsM.keep {H H':AH} {v:Value} {l:List Bool} {id id':Nat} (h:IsM H v l id) (hn:H'.n=H.n) (hk:∀ k,k≠id'→H'.t.get k=H.t.get k) (hne:id≠id'):IsM H' v l id:=by
 obtain ⟨h1,h2,h3⟩:=h
 exact ⟨h1,by rw [hn];exact h2,by rw [hk _ hne];exact h3⟩
theorem IsR.keep {H0 H H':AH} {v:Value} {l:List Bool} {id':Nat} (h:IsR H0 H v l) (hn:H'.n=H.n) (hk:∀ k,k≠id'→H'.t.get k=H.t.get k) (hid:id'<H0.n):IsR H0 H' v l:=by
 rcases h with h | ⟨id,off,cap,bk,h,hc,h1,h2,h3,h4⟩
 ·exact .inl h
 ·exact .inr ⟨id,off,cap,bk,h,hc,h1,by omega,by rw [hk _ (by omega)];exact h3,h4⟩
theorem IsG.keep {H0 H H':AH} {v:Value} {l:List Bool} {id':Nat} (h:IsG H0 H v l) (hn:H'.n=H.n) (hk:∀ k,k≠id'→H'.t.get k=H.t.get k) (hid:id'<H0.n):IsG H0 H' v l:=by
 rcases h with h | ⟨id,h,h1,h2,h3⟩
 ·exact .inl h
 ·exact .inr ⟨id,h,h1,by omega,by rw [hk _ (by omega)];exact h3⟩
theorem Ow.rdA {d1 d2:Nat} {x y:Operand} {v:Value} {l:List Bool} {n:Nat} {b:Bool} {k:IntKind} (hg:wanted E g=some true) (hg2:∀ p,wanted (put E (some d1) (.pointer (some p))) g=some true)
  (hx:ev E x=some v) (hy:ev E y=some (.int k (n:Int))) (hv:IsB H v l) (hb:l[n]?=some b)
  (h:∀ p,Ow C os (put (put E (some d1) (.pointer (some p))) (some d2) (.bool b)) H fun E' H' fl=>Q E' H' ((false,false)::(true,false)::fl)) :
  Ow C (⟨some d1,g,.indexAddr 1 none x y⟩::⟨some d2,g,.load none (.tmp d1)⟩::os) E H Q:=by
 obtain ⟨a,cap,rfl,_,h2⟩:=hv
 have hlt:=(List.getElem?_eq_some_iff.1 hb).1
 obtain ⟨ad,bk,rfl,h4,h5,h6⟩:=h2 (fun e=>by subst e;simp at hb)
 have hp:AL.pop E (.indexAddr 1 none x y)=some (.pointer (some ⟨ad.block,ad.off+n,none⟩)):=by
  have:(0:Int)≤(n:Int)∧(n:Int)<(l.length:Int):=by omega
  simp only [AL.pop,hx,hy,this,and_self,if_true,addOff,Int.toNat_natCast,Nat.mul_one]
 refine Ow.pop hg rfl hp (Ow.hop (hg2 _) rfl rfl ?_ (h _))
 simp only [AL.hop,ev,get_putS,if_true,h5,AL.part,h6 n b hb]
theorem Ow.lenA {x:Operand} {v:Value} {l:List Bool} (hg:wanted E g=some true) (hx:ev E x=some v) (hv:IsB H v l)
  (h:Ow C os (put E d (.int .i64 (l.length:Int))) H fun E' H' fl=>Q E' H' ((false,false)::fl)):Ow C (⟨d,g,.len false x⟩::os) E H Q:=by
 obtain ⟨a,cap,rfl,_⟩:=hv
 refine Ow.pop hg rfl ?_ h
 simp only [AL.pop,hx,cond_false]
end
theorem Ow.gen {C:Ctx} {os:List IOper} {E:Env} {H:AH} {Q:Env→AH→List (Bool×Bool)→Prop} (P:Env→Prop) (h:P E) (k:∀ E,P E→Ow C os E H Q):Ow C os E H Q:=k E h
theorem lt_dec (a b:Nat):decide ((a:Int)<(b:Int))=decide (a<b):=by simp
theorem le_dec (a b:Nat):decide ((a:Int)≤(b:Int))=decide (a≤b):=by simp
theorem gt_dec (a b:Nat):decide ((a:Int) > (b:Int))=decide (b<a):=by simp
theorem ge_dec (a b:Nat):decide ((a:Int)≥(b:Int))=decide (b≤a):=by simp
theorem eq_dec (a b:Nat):((a:Int) == (b:Int))=decide (a=b):=by
 by_cases h:a=b
 ·subst h;simp
 ·simp [h];omega
theorem ne_dec (a b:Nat):((a:Int) != (b:Int))=!decide (a=b):=by
 unfold bne
 rw [eq_dec]
theorem add_nat {a b:Nat} (h:a+b<2^63):fwrap .i64 ((a:Int)+(b:Int))=((a+b:Nat):Int):=by
 unfold fwrap
 have:inKind .i64 ((a:Int)+(b:Int))=true:=by
  have e:((a:Int)+(b:Int))=Int.ofNat (a+b):=rfl
  rw [e]
  show Nat.blt (a+b) 9223372036854775808=true
  exact Nat.ble_eq_true_of_le (by omega)
 rw [this];rfl
theorem sub_nat {a b:Nat} (h:a<2^63) (hb:b≤a):fwrap .i64 ((a:Int)-(b:Int))=((a-b:Nat):Int):=by
 rw [←Int.ofNat_sub hb]
 unfold fwrap
 have:inKind .i64 ((a-b:Nat):Int)=true:=by
  show Nat.blt (a-b) 9223372036854775808=true
  exact Nat.ble_eq_true_of_le (by omega)
 rw [this];rfl
theorem S0:type_of% (And.intro @wanted.eq_1 <| And.intro @wanted.eq_2 <| And.intro @AL.pop.eq_1 <| And.intro @AL.pop.eq_2 <| And.intro @AL.pop.eq_3 <| And.intro @AL.pop.eq_4 <| And.intro @AL.pop.eq_5 <| And.intro @AL.pop.eq_6 <| And.intro @AL.pop.eq_7 <| And.intro @AL.pop.eq_8 <| And.intro @AL.pop.eq_9 <| And.intro @AL.pop.eq_10 <| And.intro @AL.pop.eq_11 <| And.intro @AL.pop.eq_12 <| And.intro @AL.pop.eq_13 <| And.intro @AL.pop.eq_14 <| And.intro @AL.pop.eq_15 <| And.intro @AL.pop.eq_16 <| And.intro @AL.pop.eq_17 <| And.intro @AL.pop.eq_18 <| And.intro @AL.pop.eq_19 <| And.intro @AL.pop.eq_20 <| And.intro @AL.pop.eq_21 <| And.intro @AL.hop.eq_1 <| And.intro @AL.hop.eq_2 <| And.intro @AL.hop.eq_3 <| And.intro @AL.hop.eq_4 <| And.intro @AL.hop.eq_5 <| And.intro @AL.hop.eq_6 <| And.intro @AL.hop.eq_7 <| And.intro @AL.hop.eq_8 <| And.intro @AL.hop.eq_9 <| And.intro @ev.eq_1 <| And.intro @ev.eq_2 <| And.intro @ev.eq_3 <| And.intro @ev.eq_4 <| And.intro @evs.eq_1 <| And.intro @evs.eq_2 <| And.intro @get_putS <| And.intro @get_putN <| And.intro @get_nilS <| And.intro @if_true.{1} <| And.intro @if_false.{1} <| And.intro @abin.eq_1 <| And.intro @abin.eq_2 <| And.intro @abin.eq_3 <| And.intro @abin.eq_4 <| And.intro @abin.eq_5 <| And.intro @abin.eq_6 <| And.intro @abin.eq_7 <| And.intro @abin.eq_8 <| And.intro @abin.eq_9 <| And.intro @abin.eq_10 <| And.intro @abin.eq_11 <| And.intro @abin.eq_12 <| And.intro @abin.eq_13 <| And.intro @abin.eq_14 <| And.intro @abin.eq_15 <| And.intro @intArith.eq_1 <| And.intro @intArith.eq_2 <| And.intro @intArith.eq_3 <| And.intro @intArith.eq_4 <| And.intro @intArith.eq_5 <| And.intro @intArith.eq_6 <| And.intro @intArith.eq_7 <| And.intro @intArith.eq_8 <| And.intro @intArith.eq_9 <| And.intro @intArith.eq_10 <| And.intro @intArith.eq_11 <| And.intro @intArith.eq_12 <| And.intro @intArith.eq_13 <| And.intro @intArith.eq_14 <| And.intro @intArith.eq_15 <| And.intro @intArith.eq_16 <| And.intro @aun.eq_1 <| And.intro @aun.eq_2 <| And.intro @aun.eq_3 <| And.intro @aun.eq_4 <| And.intro @beq_self_eq_true.{0} <| And.intro Bool.true_beq <| And.intro Bool.false_beq <| And.intro Bool.not_true <| And.intro Bool.not_false <| And.intro @AL.part.eq_1 <| And.intro @AL.part.eq_2 <| And.intro @addOff.eq_1 <| And.intro Int.toNat_natCast <| And.intro Nat.mul_one <| And.intro Nat.add_zero <| And.intro Nat.zero_add <| And.intro @cond_true.{1} <| And.intro @cond_false.{1} <| And.intro (show Nat.beq 1 1=true from rfl) <| (show Nat.beq 0 1=false from rfl)):=And.intro @wanted.eq_1 <| And.intro @wanted.eq_2 <| And.intro @AL.pop.eq_1 <| And.intro @AL.pop.eq_2 <| And.intro @AL.pop.eq_3 <| And.intro @AL.pop.eq_4 <| And.intro @AL.pop.eq_5 <| And.intro @AL.pop.eq_6 <| And.intro @AL.pop.eq_7 <| And.intro @AL.pop.eq_8 <| And.intro @AL.pop.eq_9 <| And.intro @AL.pop.eq_10 <| And.intro @AL.pop.eq_11 <| And.intro @AL.pop.eq_12 <| And.intro @AL.pop.eq_13 <| And.intro @AL.pop.eq_14 <| And.intro @AL.pop.eq_15 <| And.intro @AL.pop.eq_16 <| And.intro @AL.pop.eq_17 <| And.intro @AL.pop.eq_18 <| And.intro @AL.pop.eq_19 <| And.intro @AL.pop.eq_20 <| And.intro @AL.pop.eq_21 <| And.intro @AL.hop.eq_1 <| And.intro @AL.hop.eq_2 <| And.intro @AL.hop.eq_3 <| And.intro @AL.hop.eq_4 <| And.intro @AL.hop.eq_5 <| And.intro @AL.hop.eq_6 <| And.intro @AL.hop.eq_7 <| And.intro @AL.hop.eq_8 <| And.intro @AL.hop.eq_9 <| And.intro @ev.eq_1 <| And.intro @ev.eq_2 <| And.intro @ev.eq_3 <| And.intro @ev.eq_4 <| And.intro @evs.eq_1 <| And.intro @evs.eq_2 <| And.intro @get_putS <| And.intro @get_putN <| And.intro @get_nilS <| And.intro @if_true.{1} <| And.intro @if_false.{1} <| And.intro @abin.eq_1 <| And.intro @abin.eq_2 <| And.intro @abin.eq_3 <| And.intro @abin.eq_4 <| And.intro @abin.eq_5 <| And.intro @abin.eq_6 <| And.intro @abin.eq_7 <| And.intro @abin.eq_8 <| And.intro @abin.eq_9 <| And.intro @abin.eq_10 <| And.intro @abin.eq_11 <| And.intro @abin.eq_12 <| And.intro @abin.eq_13 <| And.intro @abin.eq_14 <| And.intro @abin.eq_15 <| And.intro @intArith.eq_1 <| And.intro @intArith.eq_2 <| And.intro @intArith.eq_3 <| And.intro @intArith.eq_4 <| And.intro @intArith.eq_5 <| And.intro @intArith.eq_6 <| And.intro @intArith.eq_7 <| And.intro @intArith.eq_8 <| And.intro @intArith.eq_9 <| And.intro @intArith.eq_10 <| And.intro @intArith.eq_11 <| And.intro @intArith.eq_12 <| And.intro @intArith.eq_13 <| And.intro @intArith.eq_14 <| And.intro @intArith.eq_15 <| And.intro @intArith.eq_16 <| And.intro @aun.eq_1 <| And.intro @aun.eq_2 <| And.intro @aun.eq_3 <| And.intro @aun.eq_4 <| And.intro @beq_self_eq_true.{0} <| And.intro Bool.true_beq <| And.intro Bool.false_beq <| And.intro Bool.not_true <| And.intro Bool.not_false <| And.intro @AL.part.eq_1 <| And.intro @AL.part.eq_2 <| And.intro @addOff.eq_1 <| And.intro Int.toNat_natCast <| And.intro Nat.mul_one <| And.intro Nat.add_zero <| And.intro Nat.zero_add <| And.intro @cond_true.{1} <| And.intro @cond_false.{1} <| And.intro (show Nat.beq 1 1=true from rfl) <| (show Nat.beq 0 1=false from rfl)
theorem S1:type_of% (And.intro @eq_self.{1} <| And.intro @decide_true <| And.intro @decide_false <| And.intro @List.getElem?_cons_zero.{0} <| @List.getElem?_cons_succ.{0}):=And.intro @eq_self.{1} <| And.intro @decide_true <| And.intro @decide_false <| And.intro @List.getElem?_cons_zero.{0} <| @List.getElem?_cons_succ.{0}
end Go.AL
end
section
set_option linter.unusedSimpArgs false
set_option linter.unusedVariables false
namespace Go.AL
def Bx (H:AH) (id:Nat) (vs:List Value):Prop:=id<H.n∧H.t.get id=some ⟨vs,0⟩
theorem Bx.ext {H H':AH} {id:Nat} {vs:List Value} (h:Bx H id vs) (he:Ext H H'):Bx H' id vs:=⟨Nat.lt_of_lt_of_le h.1 he.n,by rw [he.get _ h.1];exact h.2⟩
theorem Bx.keep {H H':AH} {id id':Nat} {vs:List Value} (h:Bx H id vs) (hn:H'.n=H.n) (hk:∀ k,k≠id'→H'.t.get k=H.t.get k) (hne:id≠id'):Bx H' id vs:=⟨by rw [hn];exact h.1,by rw [hk _ hne];exact h.2⟩
theorem Bx.wl {H:AH} {id:Nat} {vs:List Value} {x:Nat} (h:Bx H id vs):Bx { H with wl:=x } id vs:=h
theorem IsM.wl {H:AH} {v:Value} {l:List Bool} {id x:Nat} (h:IsM H v l id):IsM { H with wl:=x } v l id:=h
theorem IsR.wl {H0 H:AH} {v:Value} {l:List Bool} {x:Nat} (h:IsR H0 H v l):IsR H0 { H with wl:=x } v l:=h
theorem IsG.wl {H0 H:AH} {v:Value} {l:List Bool} {x:Nat} (h:IsG H0 H v l):IsG H0 { H with wl:=x } v l:=h
section
variable {C:Ctx} {E:Env} {H:AH} {d:Option Nat} {g:Option (Nat×Bool)} {os:List IOper} {Q:Env→AH→List (Bool×Bool)→Prop}
theorem Ow.newB {zero:List Value} (hg:wanted E g=some true)
  (h:∀ H',Ext H H'→H.n<H'.n→Bx H' H.n zero→Ow C os (put E d (.pointer (some ⟨H.n,0,none⟩))) H' fun E' H'' fl=>Q E' H'' ((true,false)::fl)):Ow C (⟨d,g,.new zero⟩::os) E H Q:=
 Ow.hop hg rfl rfl (v:=.pointer (some ⟨H.n,0,none⟩)) (H1:=H.new ⟨zero,0⟩) rfl (h _ ((Ext.refl H).new _) (Nat.lt_succ_self _) ⟨Nat.lt_succ_self _,T.get_set_self _ _ _⟩)
theorem Ow.stB {H0:AH} {a x:Operand} {sz id off:Nat} {vs vs':List Value} {v:Value} (hg:wanted E g=some true) (ha:ev E a=some (.pointer (some ⟨id,off,none⟩))) (hx:ev E x=some v) (hb:Bx H id vs) (hc:((cellsOf v).length.beq sz&&(cellsOf v).all scalar)=true) (hp:putCells vs off (cellsOf v)=some vs') (h0:Ext H0 H) (hid:H0.n≤id)
  (h:∀ H',Ext H0 H'→H'.n=H.n→(∀ k,k≠id→H'.t.get k=H.t.get k)→Bx H' id vs'→Ow C os (put E d (.tuple ⟨[]⟩)) H' fun E' H'' fl=>Q E' H'' ((true,true)::fl)) :
  Ow C (⟨d,g,.store sz a x⟩::os) E H Q:=by
 simp only [Bool.and_eq_true] at hc
 have hmin:min H.n id=id:=Nat.min_eq_right (Nat.le_of_lt hb.1)
 refine Ow.wop (v:=.tuple ⟨[]⟩) (H1:=({ H with wl:=H.n }:AH).write id ⟨vs',0⟩) (b:=true) hg rfl rfl ?_ ?_ ?_
 ·simp only [AL.hop,ha,hx,hb.2,hc.1,hc.2,hp,show Nat.beq 0 1=false from rfl,Bool.not_true,Bool.or_false,cond_false]
 ·show Nat.blt (min H.n id) H.n=true
  rw [hmin];exact Nat.ble_eq_true_of_le hb.1
 ·have n0:=h0.n
  have w0:=h0.wl
  refine h _ ⟨n0,?_,?_⟩ rfl ?_ ⟨hb.1,T.get_set_self _ _ _⟩
  ·intro k hk
   show (H.t.set id _).get k=_
   rw [T.get_set_ne _ _ (by omega)];exact h0.get k hk
  ·show min H0.wl H0.n≤min H.wl (min H.n id)
   omega
  ·intro k hk
   show (H.t.set id _).get k=_
   rw [T.get_set_ne _ _ hk]
end
def mx (a b:Int):Int:=if b > a then b else a
def mn (a b:Int):Int:=if b<a then b else a
theorem amax_mx (k k':IntKind) (a b:Int):amax2 (.int k a) (.int k' b)=some (.int k (mx a b)):=rfl
theorem amin_mn (k k':IntKind) (a b:Int):amin2 (.int k a) (.int k' b)=some (.int k (mn a b)):=rfl
end Go.AL
end
