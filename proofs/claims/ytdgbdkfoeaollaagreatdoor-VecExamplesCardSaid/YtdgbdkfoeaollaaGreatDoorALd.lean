/- An interpreter of Go code over a heap of its own, and the proof that the model does what it does (part d). -/
import Derived.Test.YtdgbdkfoeaollaaGreatDoorALc
import Derived.RangeFuncLeaves
import Derived.RangeFuncIn
import Derived.OrdersIn
import Derived.TacticsIn
import Derived.LoopNIn
import Derived.RangeFuncSeq
import Derived.RangeFuncRecord
import Derived.Below
section
set_option linter.unusedSimpArgs false
set_option linter.unusedVariables false
namespace Go.AL
def WF (ro:Option Nat):Fence:={ Fence.wide with round:=ro }
theorem callsW {ro:Option Nat} {n:Nat} {P:Program} {f:FuncId} {args:Array Value} {w:World} {R:Ending→World→Prop} (h:Calls P f args w R):CallsIn (WF ro) n P f args w R:=
 (callsIn_wide (n:=n)).2 h
theorem callsW' {ro:Option Nat} {n:Nat} {P:Program} {f:FuncId} {args:Array Value} {w:World} {R:Ending→World→Prop} (h:CallsIn (WF ro) n P f args w R):Calls P f args w R:=
 (callsIn_wide (n:=n)).1 h
theorem rowsW {ro:Option Nat} {n:Nat} {P:Program} {row:String} {args:Array Value} {w:World} {R:Value→World→Prop} (h:Rows P row args w R):RowsIn (WF ro) n P row args w R:=by
 intro c cs _
 obtain ⟨v,w',r,s⟩:=h c cs
 exact ⟨v,w',r,stepsIn_wide.2 s⟩
theorem ndW {ro:Option Nat} {n:Nat} (h:(WF ro).depth.isSome=true):1≤n:=by
 exact absurd (show (none:Option Nat).isSome=true from h) (by decide)
section
variable {P:Program} {o:Oper} {a:Act} {w:World} {K:Act→World→Prop} {Q:Exit→Act→World→Prop} {ro:Option Nat} {n:Nat}
theorem wpW (hd:∀ c,o.op≠.defer c) (h:Oper.wp P o a w K Q):o.wpIn (WF ro) n P a w K Q:=by
 refine ⟨fun _ _=>trivial,?_⟩
 rw [Oper.semAt_eq _ _ _ hd]
 unfold Oper.wp at h
 generalize (execOp a.eval o).run P w=r at *
 cases r with
 | ok x w'=>
   cases x<;>simp only [Oper.upon,Oper.uponIn] at h ⊢
   all_goals first
    | exact h
    | exact ⟨ndW,CallsIn.mono (callsW h) (fun e w'' he=>by cases e<;>exact he)⟩
    | exact ⟨ndW,rowsW h⟩
    | exact False.elim h
 | halt x w'=>cases x<;>simp only [Oper.upon,Oper.uponIn] at h ⊢<;>exact h
theorem listW {ops:Array Oper} (hQ:¬ LetsOut Q):∀ {l:List Oper} {a:Act} {w:World},(∀ o∈l,∀ c,o.op≠.defer c)→wpList P ops Q l a w→wpListIn (WF ro) n P ops Q l a w
 | [],_,_,_,h=>h
 | o::rest,a,w,hd,h=>by
   have hr:∀ {a w},wpList P ops Q rest a w→wpListIn (WF ro) n P ops Q rest a w:=fun h=>listW hQ (fun o ho=>hd o (List.mem_cons_of_mem _ ho)) h
   unfold wpList at h
   unfold wpListIn
   split
   ·rename_i hw
    rw [if_pos hw] at h
    rcases h with h | ⟨_,h⟩
    ·exact Oper.wpIn_mono (fun a w=>hr) (wpW (hd o (List.mem_cons_self ..)) h)
    ·exact (hQ h).elim
   ·rename_i hw
    rw [if_neg hw] at h
    exact ⟨fun _ _=>trivial,hr h⟩
theorem anyW {ops:Array Oper} (hQ:¬ LetsOut Q) (hd:∀ (i:Nat) (o:Oper),ops[i]?=some o→∀ c,o.op≠.defer c):∀ {f:Nat} {l:Array Bool} {a:Act} {w:World},wpAny P .any ops Q f l a w→wpAnyIn (WF ro) n P .any ops Q f l a w
 | 0,_,_,_,h=>h
 | f+1,l,a,w,h=>by
   refine ⟨h.1,fun i hi=>?_⟩
   have h1:=h.2 i hi
   unfold wpOp at h1
   unfold wpOpIn
   cases ho:ops[i]? with
   | none=>rw [ho] at h1;exact anyW hQ hd h1
   | some o=>
     rw [ho] at h1
     simp only at h1 ⊢
     split
     ·rename_i hw
      rw [if_pos hw] at h1
      rcases h1 with h1 | ⟨_,h1⟩
      ·exact Oper.wpIn_mono (fun a w=>anyW hQ hd) (wpW (hd i o ho) h1)
      ·exact (hQ h1).elim
     ·rename_i hw
      rw [if_neg hw] at h1
      exact ⟨fun _ _=>trivial,anyW hQ hd h1⟩
theorem regWIn {ops:Array Oper} {draw:Bool} {id:Nat} (hm:P.follows .mixedOrders=true) (hQ:¬ LetsOut Q) (hd:∀ (i:Nat) (o:Oper),ops[i]?=some o→∀ c,o.op≠.defer c) (h:regW P ops draw Q a w):(Code.region id ops draw).wpIn (WF ro) n P Q a w:=by
 unfold regW at h
 cases draw with
 | true=>rw [if_pos rfl] at h;exact wpIn_region_any hm (anyW hQ hd h)
 | false=>
   rw [if_neg (by decide)] at h
   refine wpIn_region_list (listW hQ (fun o ho=>?_) h)
   obtain ⟨i,hi⟩:=List.getElem?_of_mem ho
   exact hd i o (by rw [←Array.getElem?_toList];exact hi)
end
theorem no_defer' {P:Program} {o:Op} {i:IOp} (h:cop P o=some i):∀ c,o≠.defer c:=by
 intro c e
 rw [e] at h
 cases h
theorem copers_no_defer {P:Program} {nt:Nat} {ops:Array Oper} {is:List IOper} (h:copers P nt ops ops.toList=some is):∀ (i:Nat) (o:Oper),ops[i]?=some o→∀ c,o.op≠.defer c:=by
 intro i o ho
 obtain ⟨_,hget⟩:=copers_get h
 obtain ⟨io,_,hc⟩:=hget i o (by rw [Array.getElem?_toList];exact ho)
 obtain ⟨c1,_⟩:=coper_some hc
 exact no_defer' c1
def flatC:IC→Bool
 | .skip | .region .. | .exit _ | .ret=>true
 | .seq a b=>flatC a&&flatC b
 | .cond _ a b=>flatC a&&flatC b
 | .block _ a=>flatC a
 | _=>false
section
variable {P:Program} {call:Call} {ro:Option Nat} {n:Nat} {ds:List Deferred}
theorem region_In (hm:P.follows .mixedOrders=true) (hF:SimF P call) {nt id:Nat} {ops:Array Oper} {draw:Bool} {ic:IC} {lf:Nat} {E E':Env} {H H':AH} {ctl:Ctl} {β:BM} {a:Act} {w:World} {Q:Exit→Act→World→Prop} (hq:¬ LetsOut Q)
  (hc:ccode P nt (.region id ops draw)=some ic) (hev:evC call lf ic E H=some (ctl,E',H')) (henv:EnvRel β E a) (hnt:nt≤a.tmps.size) (hdf:a.defers=ds) (hr:Rel P β H w) (hn:∀ id,H.n≤id→id<H'.n→β id=none)
  (hQ:∀ β' a' w',EnvRel β' E' a'→nt≤a'.tmps.size→a'.defers=ds→Post P β H w β' H' w'→ctl=.normal→Q .normal a' w'):(Code.region id ops draw).wpIn (WF ro) n P Q a w:=by
 refine regWIn hm hq ?_ (region_simW hm hF hc hev henv hnt hdf hr hn hQ)
 unfold ccode at hc
 split at hc
 ·cases hc
 ·rename_i is his
  exact copers_no_defer his
theorem code_In (hm:P.follows .mixedOrders=true) (hF:SimF P call) {nt lf:Nat}:∀ {c:Code} {ic:IC},ccode P nt c=some ic→flatC ic=true→∀ (E:Env) (H:AH) (ctl:Ctl) (E':Env) (H':AH) (β:BM) (a:Act) (w:World) (Q:Exit→Act→World→Prop),¬ LetsOut Q →
  evC call lf ic E H=some (ctl,E',H')→EnvRel β E a→nt≤a.tmps.size→a.defers=ds→Rel P β H w→(∀ id,H.n≤id→id<H'.n→β id=none) →
  (∀ β' a' w',EnvRel β' E' a'→nt≤a'.tmps.size→a'.defers=ds→Post P β H w β' H' w'→Q (ctlExit ctl) a' w')→c.wpIn (WF ro) n P Q a w
 | .skip,ic,hc,hfl=>by
   simp only [ccode,Option.some.injEq] at hc
   subst hc
   intro E H ctl E' H' β a w Q hq h henv hnt hdf hr hn hQ
   simp only [evC,Option.some.injEq,Prod.mk.injEq] at h
   obtain ⟨rfl,rfl,rfl⟩:=h
   exact wpIn_skip (hQ β a w henv hnt hdf (Post.refl hr))
 | .region id ops draw,ic,hc,hfl=>by
   intro E H ctl E' H' β a w Q hq h henv hnt hdf hr hn hQ
   refine region_In hm hF hq hc h henv hnt hdf hr hn (fun β' a' w' h1 h2 h3 h4 h5=>?_)
   have:=hQ β' a' w' h1 h2 h3 h4
   rw [h5] at this
   exact this
 | .seq x y,ic,hc,hfl=>by
   unfold ccode at hc
   split at hc
   ·cases hc
   ·rename_i ix hx
    split at hc
    ·cases hc
    ·rename_i iy hy
     cases hc
     simp only [flatC,Bool.and_eq_true] at hfl
     intro E H ctl E' H' β a w Q hq h henv hnt hdf hr hn hQ
     simp only [evC] at h
     split at h
     ·rename_i E1 H1 h1
      have a1:=evC_ap hF h1
      have a2:=evC_ap hF h
      refine wpIn_seq (code_In hm hF hx hfl.1 _ _ _ _ _ _ _ _ (Exit.then (y.wpIn (WF ro) n P Q) Q) hq h1 henv hnt hdf hr (fun id e1 e2=>hn id e1 (Nat.lt_of_lt_of_le e2 a2.mono)) ?_)
      intro β' a' w' k1 k2 k3 k4
      show y.wpIn (WF ro) n P Q a' w'
      refine code_In hm hF hy hfl.2 _ _ _ _ _ _ _ _ _ hq h k1 k2 k3 k4.rel ?_ ?_
      ·intro id e1 e2
       rw [k4.old id (.inr e1)]
       exact hn id (Nat.le_trans a1.mono e1) e2
      ·intro β2 a2' w2 g1 g2 g3 g4
       exact hQ β2 a2' w2 g1 g2 g3 (Post.trans a1 a2 hn k4 g4)
     ·rename_i hno
      refine wpIn_seq (code_In hm hF hx hfl.1 _ _ _ _ _ _ _ _ (Exit.then (y.wpIn (WF ro) n P Q) Q) hq h henv hnt hdf hr hn ?_)
      intro β' a' w' k1 k2 k3 k4
      have:=hQ β' a' w' k1 k2 k3 k4
      cases ctl with
      | normal=>exact (hno _ _ h).elim
      | exit id=>exact this
      | ret=>exact this
 | .cond c x y,ic,hc,hfl=>by
   unfold ccode at hc
   split at hc
   ·rename_i ho
    split at hc
    ·cases hc
    ·rename_i ix hx
     split at hc
     ·cases hc
     ·rename_i iy hy
      cases hc
      simp only [flatC,Bool.and_eq_true] at hfl
      intro E H ctl E' H' β a w Q hq h henv hnt hdf hr hn hQ
      have h1:Ok1 β E a c:=ok1_of hr.glob ho (fun t v _ hv=>henv t v hv)
      simp only [evC] at h
      split at h
      ·rename_i hcv
       exact wpIn_cond_true (h1 _ hcv).bool_inv (code_In hm hF hx hfl.1 _ _ _ _ _ _ _ _ _ hq h henv hnt hdf hr hn hQ)
      ·rename_i hcv
       exact wpIn_cond_false (h1 _ hcv).bool_inv (code_In hm hF hy hfl.2 _ _ _ _ _ _ _ _ _ hq h henv hnt hdf hr hn hQ)
      ·cases h
   ·cases hc
 | .block id b,ic,hc,hfl=>by
   unfold ccode at hc
   split at hc
   ·cases hc
   ·rename_i ib hb
    cases hc
    simp only [flatC] at hfl
    intro E H ctl E' H' β a w Q hq h henv hnt hdf hr hn hQ
    simp only [evC] at h
    split at h
    ·rename_i k E1 H1 h1
     simp only [Option.some.injEq,Prod.mk.injEq] at h
     obtain ⟨rfl,rfl,rfl⟩:=h
     refine wpIn_block (code_In hm hF hb hfl _ _ _ _ _ _ _ _ (Exit.inBlock id Q) hq h1 henv hnt hdf hr hn ?_)
     intro β' a' w' k1 k2 k3 k4
     have:=hQ β' a' w' k1 k2 k3 k4
     show (if k=id then Q .normal a' w' else Q (.exit k) a' w')
     by_cases hk:k=id
     ·subst hk
      simp only [Nat.beq_refl,cond_true] at this
      rw [if_pos rfl];exact this
     ·rw [if_neg hk]
      rw [beq_ne hk] at this
      exact this
    ·rename_i hno
     refine wpIn_block (code_In hm hF hb hfl _ _ _ _ _ _ _ _ (Exit.inBlock id Q) hq h henv hnt hdf hr hn ?_)
     intro β' a' w' k1 k2 k3 k4
     have:=hQ β' a' w' k1 k2 k3 k4
     cases ctl with
     | normal=>exact this
     | exit k=>exact (hno _ _ _ h).elim
     | ret=>exact this
 | .loop b,ic,hc,hfl=>by
   unfold ccode at hc
   split at hc
   ·cases hc
   ·cases hc
    cases hfl
 | .exit id,ic,hc,hfl=>by
   simp only [ccode,Option.some.injEq] at hc
   subst hc
   intro E H ctl E' H' β a w Q hq h henv hnt hdf hr hn hQ
   simp only [evC,Option.some.injEq,Prod.mk.injEq] at h
   obtain ⟨rfl,rfl,rfl⟩:=h
   exact wpIn_exit (hQ β a w henv hnt hdf (Post.refl hr))
 | .ret,ic,hc,hfl=>by
   simp only [ccode,Option.some.injEq] at hc
   subst hc
   intro E H ctl E' H' β a w Q hq h henv hnt hdf hr hn hQ
   simp only [evC,Option.some.injEq,Prod.mk.injEq] at h
   obtain ⟨rfl,rfl,rfl⟩:=h
   exact wpIn_ret (hQ β a w henv hnt hdf (Post.refl hr))
 | .rangeFunc ..,ic,hc,hfl=>by simp [ccode] at hc
 | .scope _,ic,hc,hfl=>by simp [ccode] at hc
 | .label _,ic,hc,hfl=>by simp [ccode] at hc
 | .goto _,ic,hc,hfl=>by simp [ccode] at hc
 | .refuse _,ic,hc,hfl=>by simp [ccode] at hc
end
end Go.AL
end
section
set_option linter.unusedSimpArgs false
set_option linter.unusedVariables false
set_option maxHeartbeats 2000000
namespace Go.AL
structure BackIR where
 nt:Nat
 i0:List IOper
 i1:List IOper
 iA:List IOper
 iB:List IOper
 iD:List IOper
structure BackOk (P:Program) (g:Nat) (B:BackIR) (fn:Func) (id0 id1 idY idD:Nat) (o0 o1 oY oD:Array Oper) (o11 oC:Oper) (lA lB:List Oper) (tys:Array TypeId):Prop where
 hf:P.funcs[g]?=some fn
 hnt:fn.ntmps=B.nt
 hn : (fn.name == "runtime.NumGoroutine") = false
 hb:fn.body=some (.seq (.region id0 o0 false) (.block 0 (.loop (.seq (.seq (.region id1 o1 false) (.cond (.tmp 8) .skip (.exit 0))) (.seq (.block 1 (.seq (.region idY oY false) (.cond (.tmp 18) .ret .skip))) (.region idD oD false))))))
 hr:fn.results.toList=[]
 h0:copers P B.nt o0 o0.toList=some B.i0
 h1:copers P B.nt o1 o1.toList=some B.i1
 hA:copers P B.nt oY lA=some B.iA
 hB:copers P B.nt oY lB=some B.iB
 hD:copers P B.nt oD oD.toList=some B.iD
 hY:oY.toList=o11::(lA++oC::lB)
 e11:o11.op=.move (.tmp 0)
 d11:o11.dst=some 11
 g11:o11.guard=none
 eC:oC.op=.call ⟨.value (.tmp 11),#[.tmp 12,.tmp 16],tys⟩
 dC:oC.dst=some 17
 gC:oC.guard=none
 big:19≤B.nt
 k0:(o0.toList++o1.toList++oY.toList++oD.toList).all (fun o=>o.dst != some 0)=true
 k11:lA.all (fun o=>o.dst != some 11)=true
def backOf (g:Nat) (P:Program):Option BackIR:=
 match P.funcs[g]? with
 | none=>none
 | some fn=>match fn.body with
   | some (.seq (.region _ o0 false) (.block 0 (.loop (.seq (.seq (.region _ o1 false) (.cond (.tmp 8) .skip (.exit 0))) (.seq (.block 1 (.seq (.region _ oY false) (.cond (.tmp 18) .ret .skip))) (.region _ oD false))))))=>
     (match oY.toList with
     | o11::a1::a2::a3::a4::a5::oC::lB=>(match o11.op,o11.dst,o11.guard,oC.op,oC.dst,oC.guard with
       | .move (.tmp 0),some 11,none,.call ⟨.value (.tmp 11),ags,_⟩,some 17,none=>(match ags.toList with
         | [.tmp 12,.tmp 16]=>(match copers P fn.ntmps o0 o0.toList,copers P fn.ntmps o1 o1.toList,copers P fn.ntmps oY [a1,a2,a3,a4,a5],copers P fn.ntmps oY lB,copers P fn.ntmps oD oD.toList with
           | some i0,some i1,some iA,some iB,some iD=>
             if fn.results.toList.isEmpty && !(fn.name == "runtime.NumGoroutine") && Nat.ble 19 fn.ntmps && (o0.toList ++ o1.toList ++ oY.toList ++ oD.toList).all (fun o => o.dst != some 0) && [a1, a2, a3, a4, a5].all (fun o => o.dst != some 11) then some ⟨fn.ntmps, i0, i1, iA, iB, iD⟩ else none
           | _,_,_,_,_=>none)
         | _=>none)
       | _,_,_,_,_,_=>none)
     | _=>none)
   | _=>none
theorem backOf_ok {P:Program} {g:Nat} {B:BackIR} (h:backOf g P=some B):∃ fn id0 id1 idY idD o0 o1 oY oD o11 oC lA lB tys,BackOk P g B fn id0 id1 idY idD o0 o1 oY oD o11 oC lA lB tys:=by
 unfold backOf at h
 split at h
 ·cases h
 ·rename_i fn hfn
  split at h
  ·rename_i id0 o0 id1 o1 idY oY idD oD hb
   split at h
   ·rename_i o11 a1 a2 a3 a4 a5 oC lB hY
    split at h
    ·rename_i ags tys e11 d11 g11 eC dC gC
     split at h
     ·rename_i hags
      split at h
      ·rename_i i0 i1 iA iB iD h0 h1 hA hB hD
       split at h
       ·rename_i hc
        simp only [Bool.and_eq_true,Bool.not_eq_true'] at hc
        obtain ⟨⟨⟨⟨c1,c2⟩,c3⟩,c4⟩,c5⟩:=hc
        obtain rfl:=Option.some.inj h
        have:ags=#[.tmp 12,.tmp 16]:=by apply Array.ext';exact hags
        subst this
        exact ⟨fn,id0,id1,idY,idD,o0,o1,oY,oD,o11,oC,[a1,a2,a3,a4,a5],lB,tys,hfn,rfl,c2,hb,List.isEmpty_iff.1 c1,h0,h1,hA,hB,hD,hY,e11,d11,g11,eC,dC,gC,Nat.le_of_ble_eq_true c3,c4,c5⟩
       ·cases h
      ·cases h
     ·cases h
    ·cases h
   ·cases h
  ·cases h
def backLoop (call:Call) (B:BackIR) (y:Value→Value→AH→Option (Bool×AH)):Nat→Env→AH→Option (Bool×AH)
 | 0,_,_=>none
 | n+1,E,H=>match evOps call B.i1 E H with
   | none=>none
   | some (E1,H1,_)=>match E1.get 8 with
     | some (.bool false)=>some (true,H1)
     | some (.bool true)=>(match evOps call B.iA (put E1 (some 11) (.chan none)) H1 with
       | none=>none
       | some (E2,H2,_)=>match E2.get 12,E2.get 16 with
         | some v,some x=>(match y v x H2 with
           | none=>none
           | some (b,H3)=>match evOps call B.iB (put E2 (some 17) (.bool b)) H3 with
             | none=>none
             | some (E4,H4,_)=>match E4.get 18 with
               | some (.bool true)=>bif b then none else some (false,H4)
               | some (.bool false)=>bif b then (match evOps call B.iD E4 H4 with
                 | none=>none
                 | some (E5,H5,_)=>backLoop call B y n E5 H5) else none
               | _=>none)
         | _,_=>none)
     | _=>none
def backRun (call:Call) (B:BackIR) (y:Value→Value→AH→Option (Bool×AH)) (n:Nat) (cap:Value) (H:AH):Option (Bool×AH):=
 match evOps call B.i0 (envOf [.chan none,cap] 0) H with
 | none=>none
 | some (E,H1,_)=>backLoop call B y n E H1
section
variable {F:Fence} {n:Nat} {P:Program} {o:Oper} {a:Act} {w:World} {K:Act→World→Prop} {Q:Exit→Act→World→Prop} {ops:Array Oper}
theorem uponIn_then {next:Act→World→Prop} {r:Result Next} (h:o.uponIn F n P a next (Exit.then K Q) r):o.uponIn F n P a next Q r:=by
 cases r with
 | ok x w'=>
   cases x<;>simp only [Oper.uponIn] at h ⊢
   all_goals first
    | exact h
    | exact ⟨h.1,CallsIn.mono h.2 (fun e w'' he=>by cases e<;>exact he)⟩
    | exact ⟨h.1,RoundIn.mono h.2 (fun e w'' he=>by cases e<;>exact he)⟩
 | halt x w'=>cases x<;>exact h
theorem then_uponIn {next:Act→World→Prop} {r:Result Next} (h:o.uponIn F n P a next Q r):o.uponIn F n P a next (Exit.then K Q) r:=by
 cases r with
 | ok x w'=>
   cases x<;>simp only [Oper.uponIn] at h ⊢
   all_goals first
    | exact h
    | exact ⟨h.1,CallsIn.mono h.2 (fun e w'' he=>by cases e<;>exact he)⟩
    | exact ⟨h.1,RoundIn.mono h.2 (fun e w'' he=>by cases e<;>exact he)⟩
 | halt x w'=>cases x<;>exact h
theorem wpIn_put (h:o.wpIn F n P a w K Q):o.wpIn F n P a w (fun a' w'=>K a' w'∧∃ v ds,a'=({ a with defers:=ds }:Act).put o.dst v) Q:=by
 unfold Oper.wpIn at *
 refine ⟨h.1,?_⟩
 have h:=h.2
 generalize (o.semAt F.round a.eval).run P w=r at *
 cases r with
 | ok x w'=>
   cases x<;>simp only [Oper.uponIn] at h ⊢
   all_goals first
    | exact ⟨h,_,a.defers,rfl⟩
    | exact ⟨h,_,_,rfl⟩
    | exact ⟨h.1,CallsIn.mono h.2 (fun e w'' he=>by cases e<;>first | exact ⟨he,_,a.defers,rfl⟩ | exact he)⟩
    | exact ⟨h.1,RowsIn.mono h.2 (fun _ _ he=>⟨he,_,a.defers,rfl⟩)⟩
    | exact ⟨h.1,RoundIn.mono h.2 (fun e w'' he=>by cases e<;>first | exact ⟨he,_,a.defers,rfl⟩ | exact he)⟩
    | exact h
 | halt x w'=>cases x<;>simp only [Oper.uponIn] at h ⊢<;>exact h
theorem getD_put_ne {d:Option Nat} {v:Value} {t:Nat} (h:d≠some t):(a.put d v).tmps.getD t undef=a.tmps.getD t undef:=by
 cases d with
 | none=>rfl
 | some d=>
   have:d≠t:=fun e=>h (by rw [e])
   simp only [Act.put,Array.getD_eq_getD_getElem?,Array.getElem?_setIfInBounds_ne this]
theorem listIn_frame {t:Nat}:∀ {l:List Oper} {a:Act} {w:World},(∀ o∈l,o.dst≠some t)→wpListIn F n P ops Q l a w→wpListIn F n P ops (Exit.then (fun a' w'=>Q .normal a' w'∧a'.tmps.getD t undef=a.tmps.getD t undef) Q) l a w
 | [],a,w,_,h=>⟨h,rfl⟩
 | o::rest,a,w,hd,h=>by
   have ho:=hd o (List.mem_cons_self ..)
   have ih:∀ {a' w'},a'.tmps.getD t undef=a.tmps.getD t undef→wpListIn F n P ops Q rest a' w'→wpListIn F n P ops (Exit.then (fun a' w'=>Q .normal a' w'∧a'.tmps.getD t undef=a.tmps.getD t undef) Q) rest a' w':=by
    intro a' w' e hh
    have:=listIn_frame (fun o ho=>hd o (List.mem_cons_of_mem _ ho)) hh
    rw [e] at this
    exact this
   unfold wpListIn at h ⊢
   split
   ·rename_i hw
    rw [if_pos hw] at h
    have h1:=Oper.wpIn_mono (K':=wpListIn F n P ops (Exit.then (fun a' w'=>Q .normal a' w'∧a'.tmps.getD t undef=a.tmps.getD t undef) Q) rest) (fun a' w' hh=>?_) (wpIn_put h)
    ·exact ⟨h1.1,then_uponIn h1.2⟩
    ·obtain ⟨hh,v,ds,rfl⟩:=hh
     exact ih (getD_put_ne (a:={ a with defers:=ds }) ho) hh
   ·rename_i hw
    rw [if_neg hw] at h
    exact ⟨h.1,ih (getD_put_ne ho) h.2⟩
theorem listIn_append:∀ {l1 l2:List Oper} {a:Act} {w:World},wpListIn F n P ops (Exit.then (wpListIn F n P ops Q l2) Q) l1 a w→wpListIn F n P ops Q (l1++l2) a w
 | [],_,_,_,h=>h
 | o::rest,l2,a,w,h=>by
   unfold wpListIn at h
   rw [List.cons_append]
   unfold wpListIn
   split
   ·rename_i hw
    rw [if_pos hw] at h
    have h1:=Oper.wpIn_mono (K':=wpListIn F n P ops Q (rest++l2)) (fun a' w' hh=>listIn_append hh) h
    exact ⟨h1.1,uponIn_then h1.2⟩
   ·rename_i hw
    rw [if_neg hw] at h
    exact ⟨h.1,listIn_append h.2⟩
theorem listIn_mono {Q':Exit→Act→World→Prop} (hq:∀ e a w,Q e a w→Q' e a w):∀ {l:List Oper} {a:Act} {w:World},wpListIn F n P ops Q l a w→wpListIn F n P ops Q' l a w
 | [],_,_,h=>hq _ _ _ h
 | o::rest,a,w,h=>by
   unfold wpListIn at h ⊢
   split
   ·rename_i hw
    rw [if_pos hw] at h
    have h1:=Oper.wpIn_mono (K':=wpListIn F n P ops Q' rest) (fun a' w' hh=>listIn_mono hq hh) h
    refine ⟨h1.1,?_⟩
    have h2:=h1.2
    generalize (o.semAt F.round a.eval).run P w=r at *
    cases r with
    | ok x w'=>
      cases x<;>simp only [Oper.uponIn] at h2 ⊢
      all_goals first
       | exact h2
       | exact ⟨h2.1,CallsIn.mono h2.2 (fun e w'' he=>by cases e<;>first | exact hq _ _ _ he | exact (let ⟨a,w,h⟩:=he;⟨a,w,hq _ _ _ h⟩) | exact he)⟩
       | exact ⟨h2.1,RoundIn.mono h2.2 (fun e w'' he=>by cases e<;>first | exact hq _ _ _ he | exact (let ⟨a,w,h⟩:=he;⟨a,w,hq _ _ _ h⟩) | exact he)⟩
    | halt x w'=>cases x<;>simp only [Oper.uponIn] at h2 ⊢<;>first | exact hq _ _ _ h2 | exact h2
   ·rename_i hw
    rw [if_neg hw] at h
    exact ⟨h.1,listIn_mono hq h.2⟩
end
end Go.AL
end
section
set_option linter.unusedSimpArgs false
set_option linter.unusedVariables false
set_option maxHeartbeats 2000000
namespace Go.AL
theorem Post.other {P:Program} {β β':BM} {H H':AH} {w w':World} (hr:Rel P β H w) (h:Post P β H w β' H' w') {b:Nat} {o:Obj} (ho:w.heap[b]?=some o) (hc:∀ c el fz,o≠.cells c el fz):w'.heap[b]?=some o:=by
 rw [h.frame b (Array.getElem?_eq_some_iff.1 ho).1 ?_,ho]
 intro id bi bk h1 h2 h3 e
 obtain ⟨c,el,fz,h4,_⟩:=hr.blk id bi bk h3 h1
 rw [e,ho] at h4
 cases h4
 exact hc _ _ _ rfl
def Stab (P:Program) (J:World→Prop):Prop:=∀ β H w β' H' w',Rel P β H w→Post P β H w β' H' w'→J w→J w'
section
variable {P:Program} {call:Call} {β0:BM} {H0:AH} {w0:World} {N l:Nat} {ds:List Deferred} {J Jd:World→Prop}
structure At (P:Program) (β0:BM) (H0:AH) (w0:World) (β:BM) (H:AH) (w:World):Prop where
 ap:AP H0 H
 post:Post P β0 H0 w0 β H w
theorem At.fresh {β:BM} {H:AH} {w:World} (h:At P β0 H0 w0 β H w) (hn:∀ id,H0.n≤id→id<N→β0 id=none):∀ id,H.n≤id→id<N→β id=none:=by
 intro id h1 h2
 rw [h.post.old id (.inr h1)]
 exact hn id (Nat.le_trans h.ap.mono h1) h2
theorem At.step {β β':BM} {H H':AH} {w w':World} (h:At P β0 H0 w0 β H w) (hn:∀ id,H0.n≤id→id<N→β0 id=none) (a:AP H H') (hl:H'.n≤N) (hp:Post P β H w β' H' w'):At P β0 H0 w0 β' H' w':=
 ⟨h.ap.trans a,Post.trans h.ap a (fun id h1 h2=>hn id h1 (Nat.lt_of_lt_of_le h2 hl)) h.post hp⟩
structure St (P:Program) (β0:BM) (H0:AH) (w0:World) (nt:Nat) (ds:List Deferred) (yv:Value) (J:World→Prop) (E:Env) (H:AH) (β:BM) (a:Act) (w:World):Prop where
 env:EnvRel β E a
 sz:nt≤a.tmps.size
 df:a.defers=ds
 y0:a.tmps.getD 0 undef=yv
 at_:At P β0 H0 w0 β H w
 j:J w
theorem ops_In (hF:SimF P call) {ro:Option Nat} {n nt:Nat} {ops:Array Oper} {Q:Exit→Act→World→Prop} {l:List Oper} {is:List IOper} {E E':Env} {H H':AH} {fl:List (Bool×Bool)} {β:BM} {a:Act} {w:World} (hq:¬ LetsOut Q)
  (hc:copers P nt ops l=some is) (he:evOps call is E H=some (E',H',fl)) (henv:EnvRel β E a) (hnt:nt≤a.tmps.size) (hdf:a.defers=ds) (hr:Rel P β H w) (hn:∀ id,H.n≤id→id<H'.n→β id=none)
  (hQ:∀ β' a' w',EnvRel β' E' a'→nt≤a'.tmps.size→a'.defers=ds→Post P β H w β' H' w'→Q .normal a' w'):wpListIn (WF ro) n P ops Q l a w:=by
 refine listW hq (fun o ho=>?_) (ops_sim hF hc he henv hnt hdf hr hn hQ)
 obtain ⟨i,hi⟩:=List.getElem?_of_mem ho
 obtain ⟨_,hget⟩:=copers_get hc
 obtain ⟨io,_,hc⟩:=hget i o hi
 obtain ⟨c1,_⟩:=coper_some hc
 exact no_defer' c1
theorem lst_back (hF:SimF P call) (hJ:Stab P J) (hn:∀ id,H0.n≤id→id<N→β0 id=none) {n nt t:Nat} {yv:Value} {ops:Array Oper} {X:Exit→Act→World→Prop} {l rest:List Oper} {is:List IOper} {E E':Env} {H H':AH} {fl:List (Bool×Bool)} {β:BM} {a:Act} {w:World}
  (hc:copers P nt ops l=some is) (he:evOps call is E H=some (E',H',fl)) (h0:∀ o∈l,o.dst≠some 0) (ht:∀ o∈l,o.dst≠some t) (hl:H'.n≤N) (hs:St P β0 H0 w0 nt ds yv J E H β a w)
  (hK:∀ β' a' w',β.le β'→St P β0 H0 w0 nt ds yv J E' H' β' a' w'→a'.tmps.getD t undef=a.tmps.getD t undef→wpListIn (WF none) n P ops X rest a' w'):wpListIn (WF none) n P ops X (l++rest) a w:=by
 refine listIn_append ?_
 have ap:=evOps_ap hF he
 have h1:=ops_In (ro:=none) (n:=n) (Q:=fun e a' w'=>e=.normal∧∃ β',EnvRel β' E' a'∧nt≤a'.tmps.size∧a'.defers=ds∧Post P β H w β' H' w') hF (fun ⟨_,_,h,_⟩=>by cases h) hc he hs.env hs.sz hs.df hs.at_.post.rel (fun id e1 e2=>hs.at_.fresh hn id e1 (Nat.lt_of_lt_of_le e2 hl)) (fun β' a' w' k1 k2 k3 k4=>⟨rfl,β',k1,k2,k3,k4⟩)
 refine listIn_mono ?_ (listIn_frame h0 (listIn_frame ht h1))
 intro e a' w' h
 cases e with
 | normal=>
   obtain ⟨⟨⟨_,β',k1,k2,k3,k4⟩,k5⟩,k6⟩:=h
   exact hK β' a' w' k4.ext ⟨k1,k2,k3,k6.trans hs.y0,hs.at_.step hn ap hl k4,hJ _ _ _ _ _ _ hs.at_.post.rel k4 hs.j⟩ k5
 | exit id=>exact absurd h.1 (by simp)
 | goto id=>exact absurd h.1 (by simp)
 | ret=>exact absurd h.1 (by simp)
 | panic c=>exact absurd h.1 (by simp)
 | outgrown=>exact absurd h.1 (by simp)
theorem reg_back (hF:SimF P call) (hJ:Stab P J) (hn:∀ id,H0.n≤id→id<N→β0 id=none) {n nt id:Nat} {yv:Value} {ops:Array Oper} {X:Exit→Act→World→Prop} {is:List IOper} {E E':Env} {H H':AH} {fl:List (Bool×Bool)} {β:BM} {a:Act} {w:World}
  (hc:copers P nt ops ops.toList=some is) (he:evOps call is E H=some (E',H',fl)) (h0:∀ o∈ops.toList,o.dst≠some 0) (hl:H'.n≤N) (hs:St P β0 H0 w0 nt ds yv J E H β a w)
  (hK:∀ β' a' w',St P β0 H0 w0 nt ds yv J E' H' β' a' w'→X .normal a' w'):(Code.region id ops false).wpIn (WF none) n P X a w:=by
 refine wpIn_region_list ?_
 rw [←List.append_nil ops.toList]
 exact lst_back hF hJ hn (rest:=[]) hc he h0 h0 hl hs (fun β' a' w' _ h _=>hK β' a' w' h)
theorem backLoop_ap (hF:SimF P call) {B:BackIR} {y:Value→Value→AH→Option (Bool×AH)} (hy:∀ v x H b H1,y v x H=some (b,H1)→AP H H1):∀ {n:Nat} {E:Env} {H:AH} {r:Bool} {H':AH},backLoop call B y n E H=some (r,H')→AP H H'
 | 0,_,_,_,_,h=>by cases h
 | n+1,E,H,r,H',h=>by
   unfold backLoop at h
   split at h
   ·cases h
   ·rename_i E1 H1 fl1 h1
    split at h
    ·simp only [Option.some.injEq,Prod.mk.injEq] at h;obtain ⟨_,rfl⟩:=h;exact evOps_ap hF h1
    ·split at h
     ·cases h
     ·rename_i E2 H2 fl2 h2
      split at h
      ·rename_i v x hv hx
       split at h
       ·cases h
       ·rename_i b H3 h3
        split at h
        ·cases h
        ·rename_i E4 H4 fl4 h4
         have a4:=(((evOps_ap hF h1).trans (evOps_ap hF h2)).trans (hy _ _ _ _ _ h3)).trans (evOps_ap hF h4)
         split at h
         ·cases b with
          | true=>cases h
          | false=>simp only [cond_false,Option.some.injEq,Prod.mk.injEq] at h;obtain ⟨_,rfl⟩:=h;exact a4
         ·cases b with
          | false=>cases h
          | true=>
            simp only [cond_true] at h
            split at h
            ·cases h
            ·rename_i E5 H5 fl5 h5
             exact (a4.trans (evOps_ap hF h5)).trans (backLoop_ap hF hy h)
         ·cases h
      ·cases h
    ·cases h
theorem all_ne {l:List Oper} {t:Nat} (h:l.all (fun o=>o.dst != some t)=true):∀ o∈l,o.dst≠some t:=by
 intro o ho
 have:=List.all_eq_true.1 h o ho
 simpa using this
theorem backLoop_sim (hF:SimF P call) (hJ:Stab P J) (hJd:Stab P Jd) (hn:∀ id,H0.n≤id→id<N→β0 id=none) {m g:Nat} {B:BackIR} {y:Value→Value→AH→Option (Bool×AH)} {fn:Func} {id0 id1 idY idD:Nat} {o0 o1 oY oD:Array Oper} {o11 oC:Oper} {lA lB:List Oper} {tys:Array TypeId} (hB:BackOk P g B fn id0 id1 idY idD o0 o1 oY oD o11 oC lA lB tys)
  (hyap:∀ v x H b H1,y v x H=some (b,H1)→AP H H1)
  (hy:∀ v x H b H1,y v x H=some (b,H1)→H1.n≤N→∀ β w v' x',At P β0 H0 w0 β H w→J w→VR β v v'→VR β x x'→YieldAt (WF none) (m-1) P l #[v',x'] w fun e w'=>e=.returned (.bool b)∧∃ β',β.le β'∧At P β0 H0 w0 β' H1 w'∧(if b=true then J w' else Jd w'))
  {Q:Exit→Act→World→Prop}:∀ {n:Nat} {E:Env} {H:AH} {r:Bool} {H':AH},backLoop call B y n E H=some (r,H')→H'.n≤N→∀ {β:BM} {a:Act} {w:World},St P β0 H0 w0 B.nt ds (.func (.yield l) #[] #[]) J E H β a w →
   (∀ β' a' w',a'.defers=ds→At P β0 H0 w0 β' H' w'→(if r=true then J w' else Jd w')→Q (if r=true then .exit 0 else .ret) a' w') →
   Code.roundsIn (WF none) m P (.seq (.seq (.region id1 o1 false) (.cond (.tmp 8) .skip (.exit 0))) (.seq (.block 1 (.seq (.region idY oY false) (.cond (.tmp 18) .ret .skip))) (.region idD oD false))) Q n a w
 | 0,_,_,_,_,h,_,_,_,_,_,_=>by cases h
 | n+1,E,H,r,H',h,hl,β,a,w,hs,hQ=>by
   have k0:=hB.k0
   simp only [List.all_append,Bool.and_eq_true] at k0
   obtain ⟨⟨⟨_,k1⟩,kY⟩,kD⟩:=k0
   rw [hB.hY] at kY
   simp only [List.all_cons,List.all_append,Bool.and_eq_true] at kY
   obtain ⟨_,kA,_,kB⟩:=kY
   unfold backLoop at h
   rw [roundsIn_succ]
   split at h
   ·cases h
   ·rename_i E1 H1 fl1 h1
    have fin:H1.n≤H'.n→∀ (X:Exit→Act→World→Prop),(∀ β' a' w',St P β0 H0 w0 B.nt ds (.func (.yield l) #[] #[]) J E1 H1 β' a' w'→X .normal a' w')→(Code.region id1 o1 false).wpIn (WF none) m P X a w:=
     fun hle X hX=>reg_back hF hJ hn hB.h1 h1 (all_ne k1) (Nat.le_trans hle hl) hs hX
    refine wpIn_seq (wpIn_seq ?_)
    split at h
    ·rename_i h8
     simp only [Option.some.injEq,Prod.mk.injEq] at h
     obtain ⟨rfl,rfl⟩:=h
     refine fin (Nat.le_refl _) _ (fun β' a' w' hs'=>?_)
     show (Code.cond (.tmp 8) .skip (.exit 0)).wpIn _ _ _ _ _ _
     refine wpIn_cond_false (hs'.env _ _ h8).bool_inv (wpIn_exit ?_)
     exact hQ β' a' w' hs'.df hs'.at_ (by rw [if_pos rfl];exact hs'.j)
    ·rename_i h8
     split at h
     ·cases h
     ·rename_i E2 H2 fl2 h2
      split at h
      ·rename_i v x hv hx
       split at h
       ·cases h
       ·rename_i b H3 h3
        split at h
        ·cases h
        ·rename_i E4 H4 fl4 h4
         have a2:=evOps_ap hF h2
         have a3:=hyap _ _ _ _ _ h3
         have a4:=evOps_ap hF h4
         have a5:AP H4 H':=by
          split at h
          ·cases b with
           | true=>cases h
           | false=>simp only [cond_false,Option.some.injEq,Prod.mk.injEq] at h;obtain ⟨_,rfl⟩:=h;exact AP.refl _
          ·cases b with
           | false=>cases h
           | true=>
             simp only [cond_true] at h
             split at h
             ·cases h
             ·rename_i E5 H5 fl5 h5
              exact (evOps_ap hF h5).trans (backLoop_ap hF hyap h)
          ·cases h
         have m5:=a5.mono
         have m4:=a4.mono
         have m3:=a3.mono
         have m2:=a2.mono
         refine fin (by omega) _ (fun β1 a1 w1 hs1=>?_)
         show (Code.cond (.tmp 8) .skip (.exit 0)).wpIn _ _ _ _ _ _
         refine wpIn_cond_true (hs1.env _ _ h8).bool_inv (wpIn_skip ?_)
         show (Code.seq (.block 1 (.seq (.region idY oY false) (.cond (.tmp 18) .ret .skip))) (.region idD oD false)).wpIn _ _ _ _ _ _
         refine wpIn_seq (wpIn_block (wpIn_seq (wpIn_region_list ?_)))
         rw [hB.hY]
         have hbig:=hB.big
         have s11:∀ z,some 11=some z→z<a1.tmps.size:=fun z e=>by cases e;have:=hs1.sz;omega
         have hs2:St P β0 H0 w0 B.nt ds (.func (.yield l) #[] #[]) J (AL.put E1 (some 11) (.chan none)) H1 β1 (a1.put (some 11) (.func (.yield l) #[] #[])) w1:=
          ⟨hs1.env.put s11 (.junk _),by rw [size_put];exact hs1.sz,by rw [defers_put];exact hs1.df,by rw [getD_put_ne (by simp)];exact hs1.y0,hs1.at_,hs1.j⟩
         unfold wpListIn
         rw [if_pos (by simp [Region.wanted,hB.g11])]
         refine ⟨fun _ _=>trivial,?_⟩
         have r11:(o11.semAt (WF none).round a1.eval).run P w1=.ok (.value (.func (.yield l) #[] #[])) w1:=by
          rw [Oper.semAt_eq _ _ _ (by rw [hB.e11];simp)]
          have e0:a1.eval (.tmp 0)=.func (.yield l) #[] #[]:=hs1.y0
          have e11:=hB.e11
          obtain ⟨dst,op,type,pos,after,guard⟩:=o11
          simp only at e11
          subst e11
          simp [execOp,e0]
         rw [r11,Oper.uponIn_value,hB.d11]
         refine lst_back hF hJ hn (t:=11) hB.hA h2 (all_ne kA) (all_ne hB.k11) (by omega) hs2 (fun β2 a2' w2 _ hs3 h11=>?_)
         rw [getD_put (t:=11) s11,if_pos rfl] at h11
         unfold wpListIn
         rw [if_pos (by simp [Region.wanted,hB.gC])]
         refine ⟨fun _ _=>trivial,?_⟩
         obtain ⟨fnY,tmps,asg,body,hyr,hR⟩:=hy _ _ _ _ _ h3 (by omega) β2 w2 _ _ hs3.at_ hs3.j (hs3.env _ _ hv) (hs3.env _ _ hx)
         have rC:(oC.semAt (WF none).round a2'.eval).run P w2=.ok (.round l fnY tmps asg body) w2:=by
          rw [Oper.semAt_eq _ _ _ (by rw [hB.eC];simp)]
          have e0:a2'.eval (.tmp 11)=.func (.yield l) #[] #[]:=h11
          have eC:=hB.eC
          obtain ⟨dst,op,type,pos,after,guard⟩:=oC
          simp only at eC
          subst eC
          simp only [execOp,resolve,e0,Deferred.ofValue,Sem.run_bind,Sem.run_pure,Result.andThen_ok,invoke]
          simpa [Act.eval] using hyr
         rw [rC,Oper.uponIn_round]
         refine ⟨ndW,hR.mono ?_⟩
         rintro e w3 ⟨rfl,β3,hle3,hat3,hj3⟩
         show wpListIn (WF none) m P oY _ lB (a2'.put oC.dst (.bool b)) w3
         rw [hB.dC]
         have s17:∀ z,some 17=some z→z<a2'.tmps.size:=fun z e=>by cases e;have:=hs3.sz;omega
         have env3:EnvRel β3 (AL.put E2 (some 17) (.bool b)) (a2'.put (some 17) (.bool b)):=(hs3.env.mono hle3).put s17 (.bool _)
         have y3:(a2'.put (some 17) (.bool b)).tmps.getD 0 undef=.func (.yield l) #[] #[]:=by rw [getD_put_ne (by simp)];exact hs3.y0
         cases b with
         | true=>
           rw [if_pos rfl] at hj3
           split at h
           ·cases h
           ·rename_i h18
            simp only [cond_true] at h
            split at h
            ·cases h
            ·rename_i E5 H5 fl5 h5
             have a6:=backLoop_ap hF hyap h
             have m6:=a6.mono
             rw [←List.append_nil lB]
             refine lst_back (ds:=ds) hF hJ hn hB.hB h4 (all_ne kB) (all_ne kB) (by omega) (hs:=⟨env3,by rw [size_put];exact hs3.sz,by rw [defers_put];exact hs3.df,y3,hat3,hj3⟩) (fun β4 a4 w4 _ hs4 _=>?_)
             show (Code.cond (.tmp 18) .ret .skip).wpIn _ _ _ _ _ _
             refine wpIn_cond_false (hs4.env _ _ h18).bool_inv (wpIn_skip ?_)
             show (Code.region idD oD false).wpIn _ _ _ _ _ _
             refine reg_back hF hJ hn hB.hD h5 (all_ne kD) (by omega) hs4 (fun β5 a5 w5 hs5=>?_)
             exact backLoop_sim hF hJ hJd hn hB hyap hy h hl hs5 hQ
           ·cases h
         | false=>
           rw [if_neg (by decide)] at hj3
           split at h
           ·rename_i h18
            simp only [cond_false,Option.some.injEq,Prod.mk.injEq] at h
            obtain ⟨rfl,rfl⟩:=h
            rw [←List.append_nil lB]
            refine lst_back (ds:=ds) hF hJd hn hB.hB h4 (all_ne kB) (all_ne kB) (by omega) (hs:=⟨env3,by rw [size_put];exact hs3.sz,by rw [defers_put];exact hs3.df,y3,hat3,hj3⟩) (fun β4 a4 w4 _ hs4 _=>?_)
            show (Code.cond (.tmp 18) .ret .skip).wpIn _ _ _ _ _ _
            refine wpIn_cond_true (hs4.env _ _ h18).bool_inv (wpIn_ret ?_)
            exact hQ β4 a4 w4 hs4.df hs4.at_ (by rw [if_neg (by decide)];exact hs4.j)
           ·cases h
           ·cases h
      ·cases h
    ·cases h
end
end Go.AL
end
section
set_option linter.unusedSimpArgs false
set_option linter.unusedVariables false
set_option maxHeartbeats 2000000
namespace Go.AL
open Go.RowKit (Below)
section
variable {P:Program} {call:Call} {β0 β:BM} {H0 H:AH} {w0 w:World} {N l D:Nat} {ds:List Deferred} {J Jd:World→Prop}
theorem Rel.put (h:Rel P β H w) {l:Nat} {o:Obj} (o':Obj) (ho:w.heap[l]?=some o) (hc:∀ c el fz,o≠.cells c el fz):Rel P β H (w.putObj l o') where
 lt:=h.lt
 glt:=h.glt
 glob:=h.glob
 inj:=h.inj
 blk id bi bk h1 h2:=by
  obtain ⟨c,el,fz,h3,h4⟩:=h.blk id bi bk h1 h2
  refine ⟨c,el,fz,?_,h4⟩
  have:bi.b≠l:=fun e=>by rw [e,ho] at h3;cases h3;exact hc _ _ _ rfl
  rw [World.putObj_heap_other this];exact h3
theorem Rel.alloc (h:Rel P β H w) (o:Obj):Rel P β H (w.alloc o) where
 lt:=h.lt
 glt:=h.glt
 glob:=h.glob
 inj:=h.inj
 blk id bi bk h1 h2:=by
  obtain ⟨c,el,fz,h3,h4⟩:=h.blk id bi bk h1 h2
  exact ⟨c,el,fz,by rw [Below.heap_alloc _ _ _ (Array.getElem?_eq_some_iff.1 h3).1];exact h3,h4⟩
theorem Post.put (h:Post P β0 H0 w0 β H w) {l:Nat} {o:Obj} (o':Obj) (ho:w.heap[l]?=some o) (hc:∀ c el fz,o≠.cells c el fz) (hl:w0.heap.size≤l):Post P β0 H0 w0 β H (w.putObj l o') where
 ext:=h.ext
 old:=h.old
 rel:=h.rel.put o' ho hc
 size:=by rw [World.putObj_size];exact h.size
 frame b hb hno:=by rw [World.putObj_heap_other (by omega)];exact h.frame b hb hno
 fresh:=h.fresh
 os:=h.os
 tape:=h.tape
 output:=h.output
theorem Post.alloc (h:Post P β0 H0 w0 β H w) (o:Obj):Post P β0 H0 w0 β H (w.alloc o) where
 ext:=h.ext
 old:=h.old
 rel:=h.rel.alloc o
 size:=by rw [World.size_alloc];have:=h.size;omega
 frame b hb hno:=by rw [Below.heap_alloc _ _ _ (Nat.lt_of_lt_of_le hb h.size)];exact h.frame b hb hno
 fresh:=h.fresh
 os:=h.os
 tape:=h.tape
 output:=h.output
def JR (l D:Nat) (r:Loop) (w:World):Prop:=w.heap[l]?=some (.loop r)∧w.heap[D]?=some (.deferred (some []))
theorem JR.stab {r:Loop}:Stab P (JR l D r):=fun β H w β' H' w' hr hp hj=>⟨hp.other hr hj.1 (fun _ _ _ e=>by cases e),hp.other hr hj.2 (fun _ _ _ e=>by cases e)⟩
theorem JR.put {r r':Loop} (h:JR l D r w) (hne:D≠l):JR l D r' (w.putObj l (.loop r')):=
 ⟨World.putObj_heap_same (Array.getElem?_eq_some_iff.1 h.1).1,by rw [World.putObj_heap_other hne];exact h.2⟩
theorem two_get (x y:Value) (n:Nat):(#[x,y]++Array.replicate n undef).getD 0 undef=x∧(#[x,y]++Array.replicate n undef).getD 1 undef=y:=by
 constructor<;>rw [Array.getD_eq_getD_getElem?,Array.getElem?_append_left (by simp)]<;>rfl
theorem backRun_sim (hF:SimF P call) (hJ:Stab P J) (hJd:Stab P Jd) {H':AH} {r:Bool} (hn:∀ id,H0.n≤id→id<H'.n→β0 id=none) {m n g:Nat} {B:BackIR} {y:Value→Value→AH→Option (Bool×AH)} {fn:Func} {id0 id1 idY idD:Nat} {o0 o1 oY oD:Array Oper} {o11 oC:Oper} {lA lB:List Oper} {tys:Array TypeId} (hB:BackOk P g B fn id0 id1 idY idD o0 o1 oY oD o11 oC lA lB tys)
  (hyap:∀ v x H b H1,y v x H=some (b,H1)→AP H H1)
  (hy:∀ v x H b H1,y v x H=some (b,H1)→H1.n≤H'.n→∀ β w v' x',At P β0 H0 w0 β H w→J w→VR β v v'→VR β x x'→YieldAt (WF none) (m-1) P l #[v',x'] w fun e w'=>e=.returned (.bool b)∧∃ β',β.le β'∧At P β0 H0 w0 β' H1 w'∧(if b=true then J w' else Jd w'))
  {cap cap':Value} (hcap:VR β cap cap') (he:backRun call B y n cap H=some (r,H')) (ha:At P β0 H0 w0 β H w) (hj:J w) :
  CallsIn (WF none) m P g #[.func (.yield l) #[] #[],cap'] w fun e w'=>(∃ v,e=.returned v)∧∃ β',At P β0 H0 w0 β' H' w'∧(if r=true then J w' else Jd w'):=by
 refine callsIn_of_wp hB.hf hB.hb trivial ?_
 unfold backRun at he
 split at he
 ·cases he
 ·rename_i E1 H1 fl1 h1
  have k0:=hB.k0
  simp only [List.all_append,Bool.and_eq_true] at k0
  have ap:=backLoop_ap hF hyap he
  have hbig:=hB.big
  refine wpIn_seq (reg_back (w0:=w0) (β:=β) (ds:=[]) (yv:=.func (.yield l) #[] #[]) (N:=H'.n) hF hJ hn hB.h0 h1 (all_ne k0.1.1.1) ap.mono (hs:=?_) (fun β1 a1 w1 hs1=>?_))
  ·refine ⟨?_,?_,rfl,?_,ha,hj⟩
   ·intro t v hv
    rw [envOf_get] at hv
    match t,hv with
    | 0,hv=>cases hv;exact .junk _
    | 1,hv=>cases hv;rw [(two_get _ _ _).2];exact hcap
    | t+2,hv=>simp at hv
   ·simp [hB.hnt];omega
   ·exact (two_get _ _ _).1
  ·show (Code.block 0 _).wpIn _ _ _ _ _ _
   refine wpIn_block (wpIn_loop_rounds n ?_)
   refine backLoop_sim hF hJ hJd hn hB hyap hy he (Nat.le_refl _) hs1 (fun β' a' w' hd hat hj'=>?_)
   have hres:(results fn a'.tmps).run P w'=.ok (.tuple #[]) w':=by
    have e:fn.results=#[]:=by apply Array.ext';exact hB.hr
    simp [results,e]
   have fin:(bodyPost P fn fun e w'=>(∃ v,e=.returned v)∧∃ β',At P β0 H0 w0 β' H' w'∧(if r=true then J w' else Jd w')) .ret a' w':=⟨hd,_,hres,⟨_,rfl⟩,β',hat,hj'⟩
   cases r with
   | true=>
     rw [if_pos rfl]
     simp only [Exit.inBlock,if_true]
     exact fin
   | false=>
     rw [if_neg (by decide)]
     exact fin
def bodyY (call:Call) (lf p1 p2:Nat) (iasg ibody:IC) (E:Env) (v x:Value) (H:AH):Option (Bool×AH):=
 match evC call lf iasg (AL.put (AL.put E (some p1) v) (some p2) x) H with
 | some (.normal,E1,H1)=>(match evC call lf ibody E1 H1 with
   | some (.normal,_,H2)=>some (true,H2)
   | some (.ret,_,H2)=>some (false,H2)
   | _=>none)
 | _=>none
def rangeEv (call:Call) (lf n t p1 p2 g:Nat) (B:BackIR) (iasg ibody:IC) (E:Env) (H:AH):Option (Bool×AH):=
 match E.get t with
 | some (.func (.func k) ⟨[]⟩ ⟨[cap]⟩)=>bif k.beq g then backRun call B (bodyY call lf p1 p2 iasg ibody E) n cap H else none
 | _=>none
theorem bodyY_ap (hF:SimF P call) {lf p1 p2:Nat} {iasg ibody:IC} {E:Env} {v x:Value} {H:AH} {b:Bool} {H1:AH} (h:bodyY call lf p1 p2 iasg ibody E v x H=some (b,H1)):AP H H1:=by
 unfold bodyY at h
 split at h
 ·rename_i E1 H2 h1
  split at h
  ·rename_i E2 H3 h2
   simp only [Option.some.injEq,Prod.mk.injEq] at h;obtain ⟨_,rfl⟩:=h
   exact (evC_ap hF h1).trans (evC_ap hF h2)
  ·rename_i E2 H3 h2
   simp only [Option.some.injEq,Prod.mk.injEq] at h;obtain ⟨_,rfl⟩:=h
   exact (evC_ap hF h1).trans (evC_ap hF h2)
  ·cases h
 ·cases h
theorem backRun_ap (hF:SimF P call) {B:BackIR} {y:Value→Value→AH→Option (Bool×AH)} (hy:∀ v x H b H1,y v x H=some (b,H1)→AP H H1) {n:Nat} {cap:Value} {r:Bool} {H':AH} (h:backRun call B y n cap H=some (r,H')):AP H H':=by
 unfold backRun at h
 split at h
 ·cases h
 ·rename_i E1 H1 fl1 h1
  exact (evOps_ap hF h1).trans (backLoop_ap hF hy h)
theorem rangeEv_ap (hF:SimF P call) {lf n t p1 p2 g:Nat} {B:BackIR} {iasg ibody:IC} {E:Env} {r:Bool} {H':AH} (h:rangeEv call lf n t p1 p2 g B iasg ibody E H=some (r,H')):AP H H':=by
 unfold rangeEv at h
 split at h
 ·rename_i k cap hk
  cases hb:k.beq g with
  | true=>rw [hb] at h;exact backRun_ap hF (fun _ _ _ _ _=>bodyY_ap hF) h
  | false=>rw [hb] at h;cases h
 ·cases h
theorem range_sim (hm:P.follows .mixedOrders=true) (hF:SimF P call) {lf nt n t p1 p2 g m:Nat} {B:BackIR} {asg body:Code} {iasg ibody:IC} {fn:Func} {id0 id1 idY idD:Nat} {o0 o1 oY oD:Array Oper} {o11 oC:Oper} {lA lB:List Oper} {tys:Array TypeId} (hB:BackOk P g B fn id0 id1 idY idD o0 o1 oY oD o11 oC lA lB tys)
  (hasg:ccode P nt asg=some iasg) (hfa:flatC iasg=true) (hbody:ccode P nt body=some ibody) (hfb:flatC ibody=true) (hp1:p1<nt) (hp2:p2<nt)
  {E:Env} {H':AH} {r:Bool} {a:Act} {Q:Exit→Act→World→Prop} (he:rangeEv call lf n t p1 p2 g B iasg ibody E H=some (r,H')) (henv:EnvRel β E a) (hnt:nt≤a.tmps.size) (hr:Rel P β H w) (hn:∀ id,H.n≤id→id<H'.n→β id=none)
  (hQ:∀ β' D w',w.heap.size≤D→w'.heap[D]?=some (.deferred (some []))→Post P β H w β' H' w'→Q (if r=true then .normal else .ret) { a with defers:={ target:=.collected D,args:=#[] }::a.defers } w') :
  (Code.rangeFunc (.tmp t) #[p1,p2] asg body).wpIn (WF none) m P Q a w:=by
 unfold rangeEv at he
 split at he
 ·rename_i k cap hk
  cases hkb:k.beq g with
  | false=>rw [hkb] at he;cases he
  | true=>
    rw [hkb] at he
    obtain rfl:=Nat.eq_of_beq_eq_true hkb
    simp only [cond_true] at he
    obtain ⟨fs',cs',hfun,hfs,hcs⟩:=(henv t _ hk).func_inv
    cases hfs
    cases hcs with
    | cons hcap hcs=>
      rename_i cap' ws
      cases hcs
      refine wpIn_rangeFunc ?_
      intro fnc hfnc
      obtain ⟨rec,hrec⟩:∃ rec:LoopState→Option Code→Loop,rec=fun st pe=>{ state:=st,pending:=pe,fn:=fnc,tmps:=a.tmps,params:=#[p1,p2],assign:=asg,body,defers:=w.heap.size }:=⟨_,rfl⟩
      obtain ⟨W1,hW1⟩:∃ W1,(w.alloc (.deferred (some []))).alloc (.loop (rec .ready none))=W1:=⟨_,rfl⟩
      have hL1:W1.heap[w.heap.size+1]?=some (.loop (rec .ready none)):=by
       rw [←hW1];have:=World.alloc_heap_new (w.alloc (.deferred (some []))) (.loop (rec .ready none));rwa [World.size_alloc] at this
      have hK1:W1.heap[w.heap.size]?=some (.deferred (some [])):=by
       rw [←hW1];exact (Below.heap_alloc _ _ _ (by simp)).trans (World.alloc_heap_new w _)
      have hat:At P β H w β H W1:=⟨AP.refl _,by rw [←hW1];exact ((Post.refl hr).alloc _).alloc _⟩
      have hev:a.eval (.tmp t)=.func (.func k) #[] #[cap']:=hfun
      refine ⟨w.heap.size+1,[{ target:=.collected w.heap.size,args:=#[] }],W1,{ target:=.fn (.func k) #[cap'],args:=#[.func (.yield (w.heap.size+1)) #[] #[]] },W1,k,
       #[.func (.yield (w.heap.size+1)) #[] #[],cap'],W1,?_,?_,fun _ _=>trivial,?_,ndW,?_⟩
      ·rw [←hW1,hrec];exact run_enterLoop_outer _ _ _ _ _
      ·simp only [resolve,hev]
       simp [Deferred.ofValue,Act.eval]
      ·have hfn:=hB.hf
       have hnn:=hB.hn
       simp only [beq_eq_false_iff_ne,ne_eq] at hnn
       simp [invoke,callFunc,run_program,hfn,hnn,hB.hb]
      ·refine (backRun_sim (β0:=β) (H0:=H) (w0:=w) (J:=JR (w.heap.size+1) w.heap.size (rec .ready none)) (Jd:=JR (w.heap.size+1) w.heap.size (rec .done (some .ret))) hF JR.stab JR.stab hn hB (fun _ _ _ _ _=>bodyY_ap hF) ?_ hcap he hat ⟨hL1,hK1⟩).mono ?_
       ·
        intro v x H1 b H3 hy hle β1 w1 v' x' hat1 hj hv hx
        have hyr:(Instr.yield (w.heap.size+1) #[v',x']).run P w1=.ok (.round (w.heap.size+1) fnc ((a.put (some p1) v').put (some p2) x').tmps asg body) w1:=by
         rw [run_yield (P:=P) (args:=#[v',x']) hj.1 (by rw [hrec];rfl),hrec]
         simp [Act.put]
        refine ⟨fnc,_,asg,body,hyr,roundIn_of_wpIn hfnc ?_⟩
        unfold bodyY at hy
        split at hy
        ·rename_i E1 H2 h1
         have b1:∀ z,some p1=some z→z<a.tmps.size:=fun z e=>by cases e;omega
         have b2:∀ z,some p2=some z→z<(a.put (some p1) v').tmps.size:=fun z e=>by cases e;rw [size_put];omega
         have env1:=((henv.mono hat1.post.ext).put b1 hv).put b2 hx
         have a1:=evC_ap hF h1
         have a2:AP H2 H3:=by
          split at hy
          ·rename_i h2;simp only [Option.some.injEq,Prod.mk.injEq] at hy;obtain ⟨_,rfl⟩:=hy;exact evC_ap hF h2
          ·rename_i h2;simp only [Option.some.injEq,Prod.mk.injEq] at hy;obtain ⟨_,rfl⟩:=hy;exact evC_ap hF h2
          ·cases hy
         have m1:=a1.mono
         have m2:=a2.mono
         refine code_In (ds:=[]) (ro:=some (w.heap.size+1)) hm hF hasg hfa _ _ _ _ _ β1 { tmps:=((a.put (some p1) v').put (some p2) x').tmps,defers:=[] } w1 _ (fun ⟨_,_,h⟩=>h) h1 env1 (by rw [size_put,size_put];exact hnt) rfl hat1.post.rel (fun id e1 e2=>hat1.fresh hn id e1 (by omega)) ?_
         intro β2 a2' w2 k1 k2 k3 k4
         have hat2:=hat1.step hn a1 (by omega) k4
         have hj2:=JR.stab _ _ _ _ _ _ hat1.post.rel k4 hj
         refine ⟨_,run_beginRound hj2.1 (by rw [hrec]),?_⟩
         have hne:w.heap.size≠w.heap.size+1:=by omega
         obtain ⟨w3,hw3⟩:∃ w3,w2.putObj (w.heap.size+1) (.loop { rec .ready none with state:=.busy })=w3:=⟨_,rfl⟩
         rw [hw3]
         have hj3:JR (w.heap.size+1) w.heap.size { rec .ready none with state:=.busy } w3:=by rw [←hw3];exact hj2.put hne
         have hat3:At P β H w β2 H2 w3:=⟨hat2.ap,by rw [←hw3];exact hat2.post.put _ hj2.1 (fun _ _ _ e=>by cases e) (by omega)⟩
         have fin:∀ (jump:Option Code) β4 w4,Post P β2 H2 w3 β4 H3 w4→(Instr.endRound (w.heap.size+1) jump).run P w4=.ok (.bool jump.isNone) (w4.putObj (w.heap.size+1) (.loop (rec (if jump.isNone then .ready else .done) jump))) ∧
           At P β H w β4 H3 (w4.putObj (w.heap.size+1) (.loop (rec (if jump.isNone then .ready else .done) jump)))∧JR (w.heap.size+1) w.heap.size (rec (if jump.isNone then .ready else .done) jump) (w4.putObj (w.heap.size+1) (.loop (rec (if jump.isNone then .ready else .done) jump))):=by
          intro jump β4 w4 hp
          have hj4:=JR.stab _ _ _ _ _ _ hat3.post.rel hp hj3
          have hat4:=hat3.step hn a2 hle hp
          have:=run_endRound (P:=P) jump hj4.1
          rw [hrec] at this hj4 ⊢
          exact ⟨this,⟨hat4.ap,hat4.post.put _ hj4.1 (fun _ _ _ e=>by cases e) (by omega)⟩,hj4.put hne⟩
         split at hy
         ·rename_i E2 H4 h2
          simp only [Option.some.injEq,Prod.mk.injEq] at hy
          obtain ⟨rfl,rfl⟩:=hy
          refine code_In (ds:=[]) (ro:=some (w.heap.size+1)) hm hF hbody hfb _ _ _ _ _ β2 a2' w3 _ (fun ⟨_,_,h⟩=>h) h2 k1 k2 k3 hat3.post.rel (fun id e1 e2=>hat3.fresh hn id e1 (by omega)) ?_
          intro β4 a4 w4 g1 g2 g3 g4
          obtain ⟨q1,q2,q3⟩:=fin none β4 w4 g4
          exact ⟨_,_,q1,rfl,β4,k4.ext.trans g4.ext,q2,by rw [if_pos rfl];exact q3⟩
         ·rename_i E2 H4 h2
          simp only [Option.some.injEq,Prod.mk.injEq] at hy
          obtain ⟨rfl,rfl⟩:=hy
          refine code_In (ds:=[]) (ro:=some (w.heap.size+1)) hm hF hbody hfb _ _ _ _ _ β2 a2' w3 _ (fun ⟨_,_,h⟩=>h) h2 k1 k2 k3 hat3.post.rel (fun id e1 e2=>hat3.fresh hn id e1 (by omega)) ?_
          intro β4 a4 w4 g1 g2 g3 g4
          obtain ⟨q1,q2,q3⟩:=fin (some .ret) β4 w4 g4
          exact ⟨_,_,q1,rfl,β4,k4.ext.trans g4.ext,q2,by rw [if_neg (by decide)];exact q3⟩
         ·cases hy
        ·cases hy
       ·rintro e w2 ⟨⟨v,rfl⟩,β2,hat2,hj2⟩
        have hne:w.heap.size≠w.heap.size+1:=by omega
        cases r with
        | true=>
          rw [if_pos rfl] at hj2
          have hend:=run_endLoop (P:=P) hj2.1 (by rw [hrec];simp)
          refine ⟨_,_,hend,?_⟩
          rw [hrec]
          exact hQ β2 _ _ (Nat.le_refl _) (hj2.put hne).2 (hat2.post.put _ hj2.1 (fun _ _ _ e=>by cases e) (by omega))
        | false=>
          rw [if_neg (by decide)] at hj2
          have hend:=run_endLoop (P:=P) hj2.1 (by rw [hrec];simp)
          refine ⟨_,_,hend,?_⟩
          rw [hrec]
          exact wpIn_ret (hQ β2 _ _ (Nat.le_refl _) (hj2.put hne).2 (hat2.post.put _ hj2.1 (fun _ _ _ e=>by cases e) (by omega)))
 ·cases he
end
end Go.AL
end
section
set_option linter.unusedSimpArgs false
set_option linter.unusedVariables false
set_option maxHeartbeats 2000000
namespace Go.AL
structure CatIR where
 nt:Nat
 iA:IC
 iX:IC
 iD:IC
 iE:IC
 iG:IC
 t:Nat
 p1:Nat
 p2:Nat
 iasg:IC
 ibody:IC
 res:List IRes
def catOf (f:Nat) (P:Program):Option CatIR:=
 match P.funcs[f]? with
 | none=>none
 | some fn=>match fn.body with
   | some (.seq cA (.seq cX (.seq cD (.seq (.seq cE (.block 0 (.rangeFunc (.tmp t) ps asg body))) cG))))=>
     (match ps.toList with
     | [p1,p2]=>(match ccode P fn.ntmps cA,ccode P fn.ntmps cX,ccode P fn.ntmps cD,ccode P fn.ntmps cE,ccode P fn.ntmps cG,ccode P fn.ntmps asg,ccode P fn.ntmps body,cres P fn.results.toList with
       | some iA,some iX,some iD,some iE,some iG,some iasg,some ibody,some res=>
         if flatC iA && flatC iX && flatC iD && flatC iE && flatC iG && flatC iasg && flatC ibody && Nat.blt p1 fn.ntmps && Nat.blt p2 fn.ntmps && !(fn.name == "runtime.NumGoroutine") then some ⟨fn.ntmps, iA, iX, iD, iE, iG, t, p1, p2, iasg, ibody, res⟩ else none
       | _,_,_,_,_,_,_,_=>none)
     | _=>none)
   | _=>none
structure CatOk (P:Program) (f:Nat) (C:CatIR) (fn:Func) (cA cX cD cE cG asg body:Code):Prop where
 hf:P.funcs[f]?=some fn
 hnt:fn.ntmps=C.nt
 hn : (fn.name == "runtime.NumGoroutine") = false
 hb:fn.body=some (.seq cA (.seq cX (.seq cD (.seq (.seq cE (.block 0 (.rangeFunc (.tmp C.t) #[C.p1,C.p2] asg body))) cG))))
 hA:ccode P C.nt cA=some C.iA
 hX:ccode P C.nt cX=some C.iX
 hD:ccode P C.nt cD=some C.iD
 hE:ccode P C.nt cE=some C.iE
 hG:ccode P C.nt cG=some C.iG
 hasg:ccode P C.nt asg=some C.iasg
 hbody:ccode P C.nt body=some C.ibody
 hr:cres P fn.results.toList=some C.res
 fA:flatC C.iA=true
 fX:flatC C.iX=true
 fD:flatC C.iD=true
 fE:flatC C.iE=true
 fG:flatC C.iG=true
 fasg:flatC C.iasg=true
 fbody:flatC C.ibody=true
 q1:C.p1<C.nt
 q2:C.p2<C.nt
theorem catOf_ok {P:Program} {f:Nat} {C:CatIR} (h:catOf f P=some C):∃ fn cA cX cD cE cG asg body,CatOk P f C fn cA cX cD cE cG asg body:=by
 unfold catOf at h
 split at h
 ·cases h
 ·rename_i fn hfn
  split at h
  ·rename_i cA cX cD cE t ps asg body cG hb
   split at h
   ·rename_i p1 p2 hps
    split at h
    ·rename_i iA iX iD iE iG iasg ibody res e1 e2 e3 e4 e5 e6 e7 e8
     split at h
     ·rename_i hc
      simp only [Bool.and_eq_true,Bool.not_eq_true'] at hc
      obtain ⟨⟨⟨⟨⟨⟨⟨⟨⟨f1,f2⟩,f3⟩,f4⟩,f5⟩,f6⟩,f7⟩,f8⟩,f9⟩,f10⟩:=hc
      obtain rfl:=Option.some.inj h
      have:ps=#[p1,p2]:=by apply Array.ext';exact hps
      subst this
      exact ⟨fn,cA,cX,cD,cE,cG,asg,body,hfn,rfl,f10,hb,e1,e2,e3,e4,e5,e6,e7,e8,f1,f2,f3,f4,f5,f6,f7,Nat.le_of_ble_eq_true f8,Nat.le_of_ble_eq_true f9⟩
     ·cases h
    ·cases h
   ·cases h
  ·cases h
def catFin (C:CatIR) (E:Env) (H:AH):Option (Value×AH):=
 match resOf E H C.res with
 | none=>none
 | some vs=>some (tupled vs,H)
def catEv (call:Call) (lf n g:Nat) (B:BackIR) (C:CatIR) (args:List Value) (H:AH):Option (Value×AH):=
 match evC call lf C.iA (envOf args 0) H with
 | some (.normal,E1,H1)=>(match evC call lf C.iX E1 H1 with
   | some (.ret,E2,H2)=>catFin C E2 H2
   | some (.normal,E2,H2)=>(match evC call lf C.iD E2 H2 with
     | some (.normal,E3,H3)=>(match evC call lf C.iE E3 H3 with
       | some (.normal,E4,H4)=>(match rangeEv call lf n C.t C.p1 C.p2 g B C.iasg C.ibody E4 H4 with
         | some (true,H5)=>(match evC call lf C.iG E4 H5 with
           | some (.ret,E6,H6)=>catFin C E6 H6
           | _=>none)
         | some (false,H5)=>catFin C E4 H5
         | none=>none)
       | _=>none)
     | _=>none)
   | _=>none)
 | _=>none
theorem catFin_heap {C:CatIR} {E:Env} {H:AH} {v:Value} {H1:AH} (h:catFin C E H=some (v,H1)):H1=H:=by
 unfold catFin at h
 split at h
 ·cases h
 ·simp only [Option.some.injEq,Prod.mk.injEq] at h;exact h.2.symm
theorem catEv_ap {P:Program} {call:Call} (hF:SimF P call) {lf n g:Nat} {B:BackIR} {C:CatIR} {args:List Value} {H:AH} {v:Value} {H1:AH} (h:catEv call lf n g B C args H=some (v,H1)):AP H H1:=by
 unfold catEv at h
 split at h
 ·rename_i E1 Ha hA
  split at h
  ·rename_i E2 Hx hX
   obtain rfl:=catFin_heap h
   exact (evC_ap hF hA).trans (evC_ap hF hX)
  ·rename_i E2 Hx hX
   split at h
   ·rename_i E3 Hd hD
    split at h
    ·rename_i E4 He hE
     have a4:=(((evC_ap hF hA).trans (evC_ap hF hX)).trans (evC_ap hF hD)).trans (evC_ap hF hE)
     split at h
     ·rename_i Hr hR
      split at h
      ·rename_i E6 Hg hG
       obtain rfl:=catFin_heap h
       exact (a4.trans (rangeEv_ap hF hR)).trans (evC_ap hF hG)
      ·cases h
     ·rename_i Hr hR
      obtain rfl:=catFin_heap h
      exact a4.trans (rangeEv_ap hF hR)
     ·cases h
    ·cases h
   ·cases h
  ·cases h
 ·cases h
theorem catEv_simG {P:Program} {call:Call} {lf n g f:Nat} {B:BackIR} {C:CatIR} (hm:P.follows .mixedOrders=true) (hF:SimF P call) (hb:backOf g P=some B) (hc:catOf f P=some C):SimG P f (catEv call lf n g B C):=by
 obtain ⟨fnB,id0,id1,idY,idD,o0,o1,oY,oD,o11,oC,lA,lB,tys,hB⟩:=backOf_ok hb
 obtain ⟨fn,cA,cX,cD,cE,cG,asg,body,hC⟩:=catOf_ok hc
 intro args H v H1 h
 refine ⟨catEv_ap hF h,⟨fn,hC.hf,by rw [hC.hb];rfl,hC.hn⟩,?_⟩
 intro β w cargs hargs hr hn
 obtain ⟨R,hR⟩:∃ R:Ending→World→Prop,R=fun e w'=>∃ β' v',e=.returned v'∧VR β' v v'∧Post P β H w β' H1 w':=⟨_,rfl⟩
 rw [←hR]
 have hRo:∀ w,¬ R .outgrown w:=fun w' hh=>by rw [hR] at hh;obtain ⟨_,_,e,_⟩:=hh;cases e
 have hnl:¬ LetsOut (bodyPostM (WF none) 0 P fn R):=fun ⟨a,w,hh⟩=>hRo w hh
 have fin:∀ {E' H' β' a' w'},catFin C E' H'=some (v,H1)→EnvRel β' E' a'→At P β H w β' H' w'→(a'.defers=[]∨∃ D,w.heap.size≤D∧a'.defers=[{ target:=.collected D,args:=#[] }]∧w'.heap[D]?=some (.deferred (some []))) →
   LeavesInM (WF none) 0 P fn a'.tmps R a'.defers .returning w':=by
  intro E' H' β' a' w' hf henv hat hd
  obtain rfl:=catFin_heap hf
  unfold catFin at hf
  split at hf
  ·cases hf
  ·rename_i vs hres
   simp only [Option.some.injEq,Prod.mk.injEq,and_true] at hf
   subst hf
   rcases hd with hd | ⟨D,hle,hd,hD⟩
   ·rw [hd]
    obtain ⟨v',r1,r2⟩:=results_sim (P:=P) (fn:=fn) henv hat.post.rel hC.hr hres
    exact ⟨v',r1,by rw [hR];exact ⟨β',v',rfl,r2,hat.post⟩⟩
   ·rw [hd]
    have hp:=hat.post.put (.deferred none) hD (fun _ _ _ e=>by cases e) hle
    obtain ⟨v',r1,r2⟩:=results_sim (P:=P) (fn:=fn) henv hp.rel hC.hr hres
    exact ⟨by simp,.inl ⟨D,_,rfl,run_takeDeferred hD,v',r1,by rw [hR];exact ⟨β',v',rfl,r2,hp⟩⟩⟩
 have hl:=hargs.length
 have hat0:At P β H w β H w:=⟨AP.refl _,Post.refl hr⟩
 refine callsW' (ro:=none) (n:=0) (callsIn_of_wp_marks hC.hf hC.hb trivial ?_)
 have henv0:EnvRel β (envOf args 0) { tmps:=(⟨cargs⟩:Array Value)++Array.replicate (fn.ntmps-(⟨cargs⟩:Array Value).size) undef,defers:=[] }:=by
  intro t v hv
  rw [envOf_get,if_pos (Nat.zero_le _),Nat.sub_zero] at hv
  obtain ⟨u,hu,hvr⟩:=hargs.get hv
  have hlt:=(List.getElem?_eq_some_iff.1 hu).1
  have:((⟨cargs⟩:Array Value)++Array.replicate (fn.ntmps-(⟨cargs⟩:Array Value).size) undef).getD t undef=u:=by
   rw [Array.getD_eq_getD_getElem?,Array.getElem?_append_left (by simpa using hlt)]
   have:(⟨cargs⟩:Array Value)[t]?=some u:=by rw [←Array.getElem?_toList];exact hu
   rw [this];rfl
  rw [this]
  exact hvr
 have hsz0:C.nt≤((⟨cargs⟩:Array Value)++Array.replicate (fn.ntmps-(⟨cargs⟩:Array Value).size) undef).size:=by simp [hC.hnt];omega
 unfold catEv at h
 split at h
 ·rename_i E1 Ha hA
  have aA:=evC_ap hF hA
  have go:∀ (hle:Ha.n≤H1.n),(∀ β1 a1 w1,EnvRel β1 E1 a1→C.nt≤a1.tmps.size→a1.defers=[]→At P β H w β1 Ha w1→(Code.seq cX (.seq cD (.seq (.seq cE (.block 0 (.rangeFunc (.tmp C.t) #[C.p1,C.p2] asg body))) cG))).wpIn (WF none) 0 P (bodyPostM (WF none) 0 P fn R) a1 w1) →
    (Code.seq cA (.seq cX (.seq cD (.seq (.seq cE (.block 0 (.rangeFunc (.tmp C.t) #[C.p1,C.p2] asg body))) cG)))).wpIn (WF none) 0 P (bodyPostM (WF none) 0 P fn R) { tmps:=(⟨cargs⟩:Array Value)++Array.replicate (fn.ntmps-(⟨cargs⟩:Array Value).size) undef,defers:=[] } w:=by
   intro hle hk
   refine wpIn_seq (code_In (ds:=[]) hm hF hC.hA hC.fA _ _ _ _ _ β _ w _ hnl hA henv0 hsz0 rfl hr (fun id e1 e2=>hn id e1 (by omega)) ?_)
   intro β1 a1 w1 k1 k2 k3 k4
   exact hk β1 a1 w1 k1 k2 k3 (hat0.step hn aA hle k4)
  split at h
  ·rename_i E2 Hx hX
   have aX:=evC_ap hF hX
   have e1:=catFin_heap h
   subst e1
   refine go aX.mono (fun β1 a1 w1 k1 k2 k3 hat=>?_)
   refine wpIn_seq (code_In (ds:=[]) hm hF hC.hX hC.fX _ _ _ _ _ β1 _ w1 _ hnl hX k1 k2 k3 hat.post.rel (hat.fresh hn) ?_)
   intro β2 a2 w2 g1 g2 g3 g4
   exact fin h g1 (hat.step hn aX (Nat.le_refl _) g4) (.inl g3)
  ·rename_i E2 Hx hX
   have aX:=evC_ap hF hX
   split at h
   ·rename_i E3 Hd hD
    have aD:=evC_ap hF hD
    split at h
    ·rename_i E4 He hE
     have aE:=evC_ap hF hE
     have m1:=aX.mono
     have m2:=aD.mono
     have m3:=aE.mono
     have go2:∀ (hle:He.n≤H1.n),(∀ β1 a1 w1,EnvRel β1 E4 a1→C.nt≤a1.tmps.size→a1.defers=[]→At P β H w β1 He w1 →
       (Code.rangeFunc (.tmp C.t) #[C.p1,C.p2] asg body).wpIn (WF none) 0 P (Exit.inBlock 0 (Exit.then (cG.wpIn (WF none) 0 P (bodyPostM (WF none) 0 P fn R)) (bodyPostM (WF none) 0 P fn R))) a1 w1) →
       (Code.seq cA (.seq cX (.seq cD (.seq (.seq cE (.block 0 (.rangeFunc (.tmp C.t) #[C.p1,C.p2] asg body))) cG)))).wpIn (WF none) 0 P (bodyPostM (WF none) 0 P fn R) { tmps:=(⟨cargs⟩:Array Value)++Array.replicate (fn.ntmps-(⟨cargs⟩:Array Value).size) undef,defers:=[] } w:=by
      intro hle hk
      refine go (by omega) (fun β1 a1 w1 k1 k2 k3 hat=>?_)
      refine wpIn_seq (code_In (ds:=[]) hm hF hC.hX hC.fX _ _ _ _ _ β1 _ w1 _ hnl hX k1 k2 k3 hat.post.rel (fun id e1 e2=>hat.fresh hn id e1 (by omega)) ?_)
      intro β2 a2 w2 g1 g2 g3 g4
      have hat2:=hat.step hn aX (by omega) g4
      refine wpIn_seq (code_In (ds:=[]) hm hF hC.hD hC.fD _ _ _ _ _ β2 _ w2 _ hnl hD g1 g2 g3 hat2.post.rel (fun id e1 e2=>hat2.fresh hn id e1 (by omega)) ?_)
      intro β3 a3 w3 f1 f2 f3 f4
      have hat3:=hat2.step hn aD (by omega) f4
      refine wpIn_seq (wpIn_seq (code_In (ds:=[]) hm hF hC.hE hC.fE _ _ _ _ _ β3 _ w3 _ hnl hE f1 f2 f3 hat3.post.rel (fun id e1 e2=>hat3.fresh hn id e1 (by omega)) ?_))
      intro β4 a4 w4 d1 d2 d3 d4
      refine wpIn_block ?_
      exact hk β4 a4 w4 d1 d2 d3 (hat3.step hn aE hle d4)
     split at h
     ·rename_i Hr hRg
      have aR:=rangeEv_ap hF hRg
      split at h
      ·rename_i E6 Hg hG
       have aG:=evC_ap hF hG
       have e1:=catFin_heap h
       subst e1
       have m4:=aR.mono
       have m5:=aG.mono
       refine go2 (by omega) (fun β1 a1 w1 k1 k2 k3 hat=>?_)
       refine range_sim hm hF hB hC.hasg hC.fasg hC.hbody hC.fbody hC.q1 hC.q2 hRg k1 k2 hat.post.rel (fun id e1 e2=>hat.fresh hn id e1 (by omega)) ?_
       intro β2 D w2 hle hD2 hp
       have hat2:=hat.step hn aR (by omega) hp
       rw [if_pos rfl]
       refine code_In (ds:={ target:=.collected D,args:=#[] }::a1.defers) hm hF hC.hG hC.fG _ _ _ _ _ β2 _ w2 _ hnl hG (k1.mono hp.ext) k2 rfl hat2.post.rel (fun id e1 e2=>hat2.fresh hn id e1 (by omega)) ?_
       intro β3 a3 w3 g1 g2 g3 g4
       refine fin h g1 (hat2.step hn aG (Nat.le_refl _) g4) (.inr ⟨D,Nat.le_trans hat.post.size hle,by rw [g3,k3],?_⟩)
       exact g4.other hat2.post.rel hD2 (fun _ _ _ e=>by cases e)
      ·cases h
     ·rename_i Hr hRg
      have aR:=rangeEv_ap hF hRg
      have e1:=catFin_heap h
      subst e1
      refine go2 aR.mono (fun β1 a1 w1 k1 k2 k3 hat=>?_)
      refine range_sim hm hF hB hC.hasg hC.fasg hC.hbody hC.fbody hC.q1 hC.q2 hRg k1 k2 hat.post.rel (hat.fresh hn) ?_
      intro β2 D w2 hle hD2 hp
      have hat2:=hat.step hn aR (Nat.le_refl _) hp
      rw [if_neg (by decide)]
      exact fin (a':={ a1 with defers:={ target:=.collected D,args:=#[] }::a1.defers }) h (k1.mono hp.ext) hat2 (.inr ⟨D,Nat.le_trans hat.post.size hle,by rw [k3],hD2⟩)
     ·cases h
    ·cases h
   ·cases h
  ·cases h
 ·cases h
end Go.AL
end
section
set_option linter.unusedSimpArgs false
set_option linter.unusedVariables false
set_option maxHeartbeats 1000000
namespace Go.AL
section
variable {α β:Type}
theorem half_odd {n:Nat} (h:n≠0):(bif (n % 2).beq 1 then n / 2 else n / 2-1)=(n-1) / 2:=by
 cases hb:(n % 2).beq 1 with
 | true=>have:=Nat.eq_of_beq_eq_true hb;rw [cond_true];omega
 | false=>have:=Nat.ne_of_beq_eq_false hb;rw [cond_false];omega
def lr {γ:Type} (n:Nat) (x y:Nat→γ):γ:=cond (Nat.beq (Nat.mod n (nat_lit 2)) (nat_lit 1)) (x (Nat.div (Nat.sub n (nat_lit 1)) (nat_lit 2))) (y (Nat.div (Nat.sub n (nat_lit 1)) (nat_lit 2)))
theorem lr_eq {γ:Type} {n:Nat} (h:n.beq 0=false) (x y:Nat→γ):lr n x y=bif (n % 2).beq 1 then x (n / 2) else y (n / 2-1):=by
 have hn:n≠0:=Nat.ne_of_beq_eq_false h
 have e:=half_odd hn
 show (bif (n % 2).beq 1 then x ((n-1) / 2) else y ((n-1) / 2))=_
 cases hb:(n % 2).beq 1 with
 | true=>rw [hb] at e;simp only [cond_true] at e ⊢;rw [e]
 | false=>rw [hb] at e;simp only [cond_false] at e ⊢;rw [e]
noncomputable def fget (t:T α):Nat→Option α:=T.rec (motive:=fun _=>Nat→Option α) (fun _=>none) (fun v _ _ gl gr n=>cond (Nat.beq n (nat_lit 0)) v (lr n gl gr)) t
theorem fget_eq (t:T α):∀ n,fget t n=t.get n:=by
 induction t with
 | nil=>intro n;rfl
 | node v l r hl hr=>
   intro n
   show (bif n.beq 0 then v else lr n (fget l) (fget r))=_
   simp only [T.get]
   cases h:n.beq 0 with
   | true=>rfl
   | false=>rw [lr_eq h];simp only [cond_false,hl,hr]
noncomputable def obind (o:Option α) (f:α→Option β):Option β:=Option.rec (motive:=fun _=>Option β) none f o
@[simp] theorem obind_none (f:α→Option β):obind none f=none:=rfl
@[simp] theorem obind_some (a:α) (f:α→Option β):obind (some a) f=f a:=rfl
end
noncomputable def vPtrO {β:Type} (v:Value):(Option Addr→Option β)→Option β:=Value.rec (motive_1:=fun _=>(Option Addr→Option β)→Option β) (motive_2:=fun _=>PUnit) (motive_3:=fun _=>PUnit) (fun _=>fun _=>none) (fun _ _=>fun _=>none) (fun _ _=>fun _=>none) (fun _ _ _=>fun _=>none) (fun _=>fun _=>none) (fun o=>fun k=>k o) (fun _ _ _=>fun _=>none) (fun _=>fun _=>none) (fun _=>fun _=>none) (fun _ _ _ _ _=>fun _=>none) (fun _=>none) (fun _ _ _=>fun _=>none) (fun _=>none) (fun _ _=>fun _=>none) (fun _ _=>fun _=>none) (fun _ _=>⟨⟩) ⟨⟩ (fun _ _ _ _=>⟨⟩) v
noncomputable def vSlice {β:Type} (v:Value):(Option Addr→Nat→Nat→Option β)→Option β:=Value.rec (motive_1:=fun _=>(Option Addr→Nat→Nat→Option β)→Option β) (motive_2:=fun _=>PUnit) (motive_3:=fun _=>PUnit) (fun _=>fun _=>none) (fun _ _=>fun _=>none) (fun _ _=>fun _=>none) (fun _ _ _=>fun _=>none) (fun _=>fun _=>none) (fun _=>fun _=>none) (fun a n c=>fun k=>k a n c) (fun _=>fun _=>none) (fun _=>fun _=>none) (fun _ _ _ _ _=>fun _=>none) (fun _=>none) (fun _ _ _=>fun _=>none) (fun _=>none) (fun _ _=>fun _=>none) (fun _ _=>fun _=>none) (fun _ _=>⟨⟩) ⟨⟩ (fun _ _ _ _=>⟨⟩) v
noncomputable def bsel {γ:Type} (c:Bool) (a b:γ):γ:=Bool.rec (motive:=fun _=>γ) b a c
@[simp] theorem bsel_eq {γ:Type} (c:Bool) (a b:γ):bsel c a b=bif c then a else b:=by cases c<;>rfl
noncomputable def oaddr {β:Type} (o:Option Addr):(Addr→Option β)→Option β:=Option.rec (motive:=fun _=>(Addr→Option β)→Option β) (fun _=>none) (fun a k=>k a) o
noncomputable def vPtr {β:Type} (v:Value) (k:Addr→Option β):Option β:=vPtrO v fun o=>oaddr o k
noncomputable def fev (E:Env) (x:Operand):Option Value:=Operand.rec (motive:=fun _=>Env→Option Value) (fun t E=>fget E t) (fun v _=>some v) (fun g _=>some (.pointer (some ⟨g,0,none⟩))) (fun f _=>some (.func (.func f) #[] #[])) x E
@[simp] theorem fev_eq (E:Env) (x:Operand):fev E x=ev E x:=by cases x<;>first | rfl | exact fget_eq _ _
noncomputable def fevs (E:Env) (l:List Operand):Option (List Value):=List.rec (motive:=fun _=>Option (List Value)) (some []) (fun x _ ih=>obind (fev E x) fun v=>obind ih fun vs=>some (v::vs)) l
@[simp] theorem fevs_eq (E:Env):∀ l,fevs E l=evs E l
  | []=>rfl
  | x::l=>by
    show (obind (fev E x) fun v=>obind (fevs E l) fun vs=>some (v::vs))=_
    rw [fevs_eq E l,fev_eq,show evs E (x::l)=(match ev E x with | none=>none | some v=>match evs E l with | none=>none | some vs=>some (v::vs)) from rfl]
    generalize evs E l=r
    cases ev E x with
    | none=>rfl
    | some v=>cases r<;>rfl
@[simp] theorem vPtr_some {β:Type} (a:Addr) (k:Addr→Option β):vPtr (.pointer (some a)) k=k a:=rfl
@[simp] theorem vSlice_mk {β:Type} (a:Option Addr) (n c:Nat) (k:Option Addr→Nat→Nat→Option β):vSlice (.slice a n c) k=k a n c:=rfl
def iz (b:Int):Bool:=match b with | .ofNat n=>n.beq 0 | .negSucc _=>false
theorem nbeq (m n:Nat):m.beq n=decide (m=n):=by
 cases h:m.beq n with
 | true=>exact (decide_eq_true (Nat.eq_of_beq_eq_true h)).symm
 | false=>exact (decide_eq_false (Nat.ne_of_beq_eq_false h)).symm
theorem nble (m n:Nat):Nat.ble m n=decide (m≤n):=by
 cases h:Nat.ble m n with
 | true=>exact (decide_eq_true (Nat.le_of_ble_eq_true h)).symm
 | false=>exact (decide_eq_false (Nat.not_le_of_not_ble_eq_true (by rw [h];decide))).symm
end Go.AL
end
section
set_option linter.unusedSimpArgs false
set_option linter.unusedVariables false
namespace Go.AL
abbrev uv (n:Int):Value:=.int .u8 n
def UsB (H:AH) (v:Value) (l:List Int):Prop:=
 ∃ a cap,v=.slice a l.length cap∧(cap=UC∨l.length≤cap)∧(l≠[]→∃ ad bk,a=some ad∧ad.block<H.n∧H.t.get ad.block=some bk∧∀ i b,l[i]?=some b→bk.cells[ad.off+i]?=some (uv b))
theorem UsB.ext {H H':AH} {v:Value} {l:List Int} (h:UsB H v l) (he:Ext H H'):UsB H' v l:=by
 obtain ⟨a,cap,rfl,hc,h2⟩:=h
 refine ⟨a,cap,rfl,hc,fun hl=>?_⟩
 obtain ⟨ad,bk,h3,h4,h5,h6⟩:=h2 hl
 exact ⟨ad,bk,h3,Nat.lt_of_lt_of_le h4 he.n,by rw [he.get _ h4];exact h5,h6⟩
theorem UsB.nil (H:AH):UsB H (.slice none 0 0) []:=⟨none,0,rfl,.inr (Nat.le_refl _),fun h=>absurd rfl h⟩
theorem UsB.at {H:AH} {v:Value} {l:List Int} {n:Nat} {b:Int} (h:UsB H v l) (hb:l[n]?=some b):∃ ad cap bk,v=.slice (some ad) l.length cap∧ad.block<H.n∧H.t.get ad.block=some bk∧bk.cells[ad.off+n]?=some (uv b):=by
 obtain ⟨a,cap,rfl,_,h2⟩:=h
 obtain ⟨ad,bk,rfl,h4,h5,h6⟩:=h2 (fun e=>by subst e;simp at hb)
 exact ⟨ad,cap,bk,rfl,h4,h5,h6 n b hb⟩
theorem UsB.shape {H:AH} {v:Value} {l:List Int} (h:UsB H v l):∃ a cap,v=.slice a l.length cap:=by
 obtain ⟨a,cap,rfl,_⟩:=h
 exact ⟨a,cap,rfl⟩
theorem UsB.wl {H:AH} {v:Value} {l:List Int} {x:Nat} (h:UsB H v l):UsB { H with wl:=x } v l:=h
def UsM (H:AH) (v:Value) (l:List Int) (id:Nat):Prop:=v=.slice (some ⟨id,0,none⟩) l.length l.length∧id<H.n∧H.t.get id=some ⟨l.map uv,0⟩
theorem UsM.isB {H:AH} {v:Value} {l:List Int} {id:Nat} (h:UsM H v l id):UsB H v l:=by
 obtain ⟨rfl,h2,h3⟩:=h
 refine ⟨_,_,rfl,.inr (Nat.le_refl _),fun _=>⟨_,_,rfl,h2,h3,fun i b hb=>?_⟩⟩
 simp [hb]
def UsR (H0 H:AH) (v:Value) (l:List Int):Prop:=
 (v=.slice none 0 0∧l=[])∨∃ id off cap bk,v=.slice (some ⟨id,off,none⟩) l.length cap∧(cap=UC∨l.length≤cap)∧H0.n≤id∧id<H.n∧H.t.get id=some bk∧bk.kind≠1∧off+l.length≤bk.cells.length∧(∀ i b,l[i]?=some b→bk.cells[off+i]?=some (uv b))∧∀ c∈bk.cells,∃ b,c=uv b
theorem UsR.isB {H0 H:AH} {v:Value} {l:List Int} (h:UsR H0 H v l):UsB H v l:=by
 rcases h with ⟨rfl,rfl⟩ | ⟨id,off,cap,bk,rfl,hc,h1,h2,h3,h4,h5,h6⟩
 ·exact UsB.nil H
 ·exact ⟨_,_,rfl,hc,fun _=>⟨_,bk,rfl,h2,h3,h6.1⟩⟩
theorem UsM.isR {H0 H:AH} {v:Value} {l:List Int} {id:Nat} (h:UsM H v l id) (h0:H0.n≤id):UsR H0 H v l:=by
 obtain ⟨rfl,h2,h3⟩:=h
 refine .inr ⟨id,0,_,_,rfl,.inr (Nat.le_refl _),h0,h2,h3,by simp,by simp,fun i b hb=>by simp [hb],fun c hc=>by obtain ⟨b,_,rfl⟩:=List.mem_map.1 hc;exact ⟨b,rfl⟩⟩
theorem UsR.ext {H0 H H':AH} {v:Value} {l:List Int} (h:UsR H0 H v l) (he:Ext H H'):UsR H0 H' v l:=by
 rcases h with h | ⟨id,off,cap,bk,rfl,hc,h1,h2,h3,h4,h5,h6⟩
 ·exact .inl h
 ·exact .inr ⟨id,off,cap,bk,rfl,hc,h1,Nat.lt_of_lt_of_le h2 he.n,by rw [he.get _ h2];exact h3,h4,h5,h6⟩
def UsG (H0 H:AH) (v:Value) (l:List Int):Prop:=
 (v=.slice none 0 0∧l=[])∨∃ id,v=.slice (some ⟨id,0,none⟩) l.length UC∧H0.n≤id∧id<H.n∧H.t.get id=some ⟨l.map uv,3⟩
theorem UsG.isR {H0 H:AH} {v:Value} {l:List Int} (h:UsG H0 H v l):UsR H0 H v l:=by
 rcases h with h | ⟨id,rfl,h0,h2,h3⟩
 ·exact .inl h
 ·exact .inr ⟨id,0,UC,_,rfl,.inl rfl,h0,h2,h3,by simp,by simp,fun i b hb=>by simp [hb],fun c hc=>by obtain ⟨b,_,rfl⟩:=List.mem_map.1 hc;exact ⟨b,rfl⟩⟩
theorem UsG.ext {H0 H H':AH} {v:Value} {l:List Int} (h:UsG H0 H v l) (he:Ext H H'):UsG H0 H' v l:=by
 rcases h with h | ⟨id,rfl,h0,h2,h3⟩
 ·exact .inl h
 ·exact .inr ⟨id,rfl,h0,Nat.lt_of_lt_of_le h2 he.n,by rw [he.get _ h2];exact h3⟩
theorem map_repU (n:Nat):(List.range (n*1)).map (fun i=>([uv 0]:List Value).getD (i % 1) (.tuple ⟨[]⟩))=(List.replicate n 0).map uv:=by
 rw [Nat.mul_one]
 apply List.ext_getElem?
 intro i
 by_cases h:i<n<;>simp [h,Nat.mod_one]
section
variable {C:Ctx} {E:Env} {H:AH} {d:Option Nat} {g:Option (Nat×Bool)} {i:IOp} {os:List IOper} {Q:Env→AH→List (Bool×Bool)→Prop}
theorem UsM.set {H:AH} {v:Value} {l:List Int} {id:Nat} (h:UsM H v l id):v=.slice (some ⟨id,0,none⟩) l.length l.length:=h.1
theorem UsM.ext {H H':AH} {v:Value} {l:List Int} {id:Nat} (h:UsM H v l id) (he:Ext H H'):UsM H' v l id:=by
 obtain ⟨h1,h2,h3⟩:=h
 exact ⟨h1,Nat.lt_of_lt_of_le h2 he.n,by rw [he.get _ h2];exact h3⟩
theorem UsM.keep {H H':AH} {v:Value} {l:List Int} {id id':Nat} (h:UsM H v l id) (hn:H'.n=H.n) (hk:∀ k,k≠id'→H'.t.get k=H.t.get k) (hne:id≠id'):UsM H' v l id:=by
 obtain ⟨h1,h2,h3⟩:=h
 exact ⟨h1,by rw [hn];exact h2,by rw [hk _ hne];exact h3⟩
theorem UsR.keep {H0 H H':AH} {v:Value} {l:List Int} {id':Nat} (h:UsR H0 H v l) (hn:H'.n=H.n) (hk:∀ k,k≠id'→H'.t.get k=H.t.get k) (hid:id'<H0.n):UsR H0 H' v l:=by
 rcases h with h | ⟨id,off,cap,bk,h,hc,h1,h2,h3,h4⟩
 ·exact .inl h
 ·exact .inr ⟨id,off,cap,bk,h,hc,h1,by omega,by rw [hk _ (by omega)];exact h3,h4⟩
theorem UsG.keep {H0 H H':AH} {v:Value} {l:List Int} {id':Nat} (h:UsG H0 H v l) (hn:H'.n=H.n) (hk:∀ k,k≠id'→H'.t.get k=H.t.get k) (hid:id'<H0.n):UsG H0 H' v l:=by
 rcases h with h | ⟨id,h,h1,h2,h3⟩
 ·exact .inl h
 ·exact .inr ⟨id,h,h1,by omega,by rw [hk _ (by omega)];exact h3⟩
end
theorem UsM.wl {H:AH} {v:Value} {l:List Int} {id x:Nat} (h:UsM H v l id):UsM { H with wl:=x } v l id:=h
theorem UsR.wl {H0 H:AH} {v:Value} {l:List Int} {x:Nat} (h:UsR H0 H v l):UsR H0 { H with wl:=x } v l:=h
theorem UsG.wl {H0 H:AH} {v:Value} {l:List Int} {x:Nat} (h:UsG H0 H v l):UsG H0 { H with wl:=x } v l:=h
end Go.AL
end
section
set_option linter.unusedSimpArgs false
set_option linter.unusedVariables false
namespace Go.AL
def UsI (H:AH) (v:Value) (l:List Int) (id:Nat):Prop:=∃ c kd,v=.slice (some ⟨id,0,none⟩) l.length c∧((c=UC∧kd=3)∨(c=l.length∧kd=0))∧id<H.n∧H.t.get id=some ⟨l.map uv,kd⟩∧l≠[]
theorem UsI.isR {H0 H:AH} {v:Value} {l:List Int} {id:Nat} (h:UsI H v l id) (h0:H0.n≤id):UsR H0 H v l:=by
 obtain ⟨c,kd,rfl,hk,h2,h3,h4⟩:=h
 refine .inr ⟨id,0,c,_,rfl,?_,h0,h2,h3,?_,by simp,fun i b hb=>by simp [hb],fun c hc=>by obtain ⟨b,_,rfl⟩:=List.mem_map.1 hc;exact ⟨b,rfl⟩⟩
 ·rcases hk with ⟨rfl,_⟩ | ⟨rfl,_⟩
  ·exact .inl rfl
  ·exact .inr (Nat.le_refl _)
 ·rcases hk with ⟨_,rfl⟩ | ⟨_,rfl⟩
  ·show (3:Nat)≠1;decide
  ·show (0:Nat)≠1;decide
theorem UsI.isB {H:AH} {v:Value} {l:List Int} {id:Nat} (h:UsI H v l id):UsB H v l:=(h.isR (H0:=⟨.nil,0,0⟩) (Nat.zero_le _)).isB
theorem UsI.ext {H H':AH} {v:Value} {l:List Int} {id:Nat} (h:UsI H v l id) (he:Ext H H'):UsI H' v l id:=by
 obtain ⟨c,kd,h1,hk,h2,h3,h4⟩:=h
 exact ⟨c,kd,h1,hk,Nat.lt_of_lt_of_le h2 he.n,by rw [he.get _ h2];exact h3,h4⟩
theorem UsI.wl {H:AH} {v:Value} {l:List Int} {id x:Nat} (h:UsI H v l id):UsI { H with wl:=x } v l id:=h
def But (H H':AH) (id:Nat):Prop:=H.n≤H'.n∧∀ k,k<H.n→k≠id→H'.t.get k=H.t.get k
theorem But.trans {H H1 H2:AH} {id:Nat} (h:But H H1 id) (h':But H1 H2 id):But H H2 id:=⟨Nat.le_trans h.1 h'.1,fun k hk hne=>by rw [h'.2 k (Nat.lt_of_lt_of_le hk h.1) hne,h.2 k hk hne]⟩
theorem But.wl {H H':AH} {id x:Nat} (h:But H H' id):But H { H' with wl:=x } id:=h
end Go.AL
end
section
set_option linter.unusedSimpArgs false
set_option linter.unusedVariables false
namespace Go.AL
theorem plain_eq1 {β:BM} {v w:Value} (h:VR β v w) (hp:AL.plainS v=true):w=v:=by
 cases h<;>first | rfl | (simp [AL.plainS] at hp)
theorem plain_eqs {β:BM}:∀ {vs ws:List Value},VRs β vs ws→vs.all AL.plainS=true→ws=vs
 | [],_,h,_=>by cases h;rfl
 | v::vs,_,.cons h hs,hp=>by
   simp only [List.all_cons,Bool.and_eq_true] at hp
   rw [plain_eq1 h hp.1,plain_eqs hs hp.2]
theorem backLoop_mono {c c':Call} (h:CallLe c c') {B:BackIR} {y y':Value→Value→AH→Option (Bool×AH)} (hy:∀ v x H r,y v x H=some r→y' v x H=some r):∀ {n m:Nat} {E:Env} {H:AH} {r:Bool×AH},n≤m→backLoop c B y n E H=some r→backLoop c' B y' m E H=some r
 | 0,_,_,_,_,_,he=>by cases he
 | n+1,0,_,_,_,hm,_=>by omega
 | n+1,m+1,E,H,r,hm,he=>by
   unfold backLoop at he ⊢
   split at he
   ·cases he
   ·rename_i h1
    rw [evOps_mono h h1]
    simp only
    split at he
    ·rename_i h8;try rw [h8]
     exact he
    ·rename_i h8
     try rw [h8]
     try simp only
     split at he
     ·cases he
     ·rename_i h2
      rw [evOps_mono h h2]
      simp only
      split at he
      ·rename_i hv hx
       try rw [hv,hx]
       try simp only
       split at he
       ·cases he
       ·rename_i h3
        rw [hy _ _ _ _ h3]
        simp only
        split at he
        ·cases he
        ·rename_i h4
         rw [evOps_mono h h4]
         simp only
         split at he
         ·rename_i h18;try rw [h18]
          exact he
         ·rename_i h18
          try rw [h18]
          simp only [cond_eq_ite] at he ⊢
          split at he
          ·rename_i hb
           rw [if_pos hb]
           split at he
           ·cases he
           ·rename_i h5
            rw [evOps_mono h h5]
            exact backLoop_mono h hy (by omega) he
          ·cases he
         ·cases he
      ·cases he
    ·cases he
theorem backRun_mono {c c':Call} (h:CallLe c c') {B:BackIR} {y y':Value→Value→AH→Option (Bool×AH)} (hy:∀ v x H r,y v x H=some r→y' v x H=some r) {n m:Nat} (hm:n≤m) {cap:Value} {H:AH} {r:Bool×AH} (he:backRun c B y n cap H=some r):backRun c' B y' m cap H=some r:=by
 unfold backRun at he ⊢
 split at he
 ·cases he
 ·rename_i h1
  rw [evOps_mono h h1]
  exact backLoop_mono h hy hm he
theorem bodyY_mono {c c':Call} (h:CallLe c c') {n m p1 p2:Nat} (hm:n≤m) {ia ib:IC} {E:Env} {v x:Value} {H:AH} {r:Bool×AH} (he:bodyY c n p1 p2 ia ib E v x H=some r):bodyY c' m p1 p2 ia ib E v x H=some r:=by
 unfold bodyY at he ⊢
 split at he
 ·rename_i h1
  rw [evC_mono h hm h1]
  simp only
  split at he
  ·rename_i h2;rw [evC_mono h hm h2];exact he
  ·rename_i h2;rw [evC_mono h hm h2];exact he
  ·cases he
 ·cases he
theorem rangeEv_mono {c c':Call} (h:CallLe c c') {n m t p1 p2 g:Nat} (hm:n≤m) {B:BackIR} {ia ib:IC} {E:Env} {H:AH} {r:Bool×AH} (he:rangeEv c n n t p1 p2 g B ia ib E H=some r):rangeEv c' m m t p1 p2 g B ia ib E H=some r:=by
 unfold rangeEv at he ⊢
 split at he
 ·rename_i k cap hk
  rw [cond_eq_ite] at he ⊢
  split at he
  ·rename_i hb
   rw [if_pos hb]
   exact backRun_mono h (fun v x H r hr=>bodyY_mono h hm hr) hm he
  ·cases he
 ·cases he
theorem catEv_mono {c c':Call} (h:CallLe c c') {n m g:Nat} (hm:n≤m) {B:BackIR} {K:CatIR} {args:List Value} {H:AH} {r:Value×AH} (he:catEv c n n g B K args H=some r):catEv c' m m g B K args H=some r:=by
 unfold catEv at he ⊢
 split at he
 ·rename_i h1
  rw [evC_mono h hm h1]
  simp only
  split at he
  ·rename_i h2;rw [evC_mono h hm h2];exact he
  ·rename_i h2
   rw [evC_mono h hm h2]
   simp only
   split at he
   ·rename_i h3
    rw [evC_mono h hm h3]
    simp only
    split at he
    ·rename_i h4
     rw [evC_mono h hm h4]
     simp only
     split at he
     ·rename_i h5
      rw [rangeEv_mono h hm h5]
      simp only
      split at he
      ·rename_i h6;rw [evC_mono h hm h6];exact he
      ·cases he
     ·rename_i h5;rw [rangeEv_mono h hm h5];exact he
     ·cases he
    ·cases he
   ·cases he
  ·cases he
 ·cases he
noncomputable def anyN (f:Nat→List Value→AH→Option (Value×AH)):List Value→AH→Option (Value×AH):=fun args H=>
 open Classical in if h:∃ r,∃ N,f N args H=some r then some h.choose else none
theorem anyN_sim {P:Program} {k:Nat} {f:Nat→List Value→AH→Option (Value×AH)} (h:∀ N,SimG P k (f N)):SimG P k (anyN f):=by
 intro args H v H1 he
 unfold anyN at he
 split at he
 ·rename_i hx
  obtain ⟨N,hN⟩:=hx.choose_spec
  rw [Option.some.inj he] at hN
  exact h N args H v H1 hN
 ·cases he
theorem anyN_eq {f:Nat→List Value→AH→Option (Value×AH)} (hm:∀ n m args H r,n≤m→f n args H=some r→f m args H=some r) {N:Nat} {args:List Value} {H:AH} {r:Value×AH} (he:f N args H=some r):anyN f args H=some r:=by
 unfold anyN
 have hx:∃ r,∃ N,f N args H=some r:=⟨r,N,he⟩
 rw [dif_pos hx]
 obtain ⟨M,hM⟩:=hx.choose_spec
 have a:=hm N (max N M) args H _ (Nat.le_max_left _ _) he
 have b:=hm M (max N M) args H _ (Nat.le_max_right _ _) hM
 rw [a] at b
 exact b.symm
end Go.AL
end
