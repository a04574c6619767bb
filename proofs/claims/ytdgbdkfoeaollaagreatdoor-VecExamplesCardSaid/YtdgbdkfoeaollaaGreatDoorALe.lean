/- An interpreter of Go code over a heap of its own, and the proof that the model does what it does (part e). -/
import Derived.Test.YtdgbdkfoeaollaaGreatDoorALg
section
set_option linter.unusedVariables false
set_option linter.unusedSimpArgs false
set_option linter.unusedSectionVars false
namespace Go.SX
open Go.AL
section
variable {A:Nat→Prop} {m:List Value} {H:AH} {E:Env} {C:Ctx} {tb:List (List Int)} {B:AH} {D:Bs} {s:St}
def RdR (H:AH) (w:Value) (cs:List Value):Prop:=∃ a cap,w=.slice a cs.length cap∧(cs≠[]→∃ ad bk,a=some ad∧H.t.get ad.block=some bk∧∀ i v,cs[i]?=some v→bk.cells[ad.off+i]?=some v)
theorem RdS.rr {w:Value} {cs:List Value} (h:RdS A H w cs):RdR H w cs:=by
 obtain ⟨a,cap,h1,_,h3⟩:=h
 refine ⟨a,cap,h1,fun hne=>?_⟩
 obtain ⟨ad,h4,bk,_,_,h5,h6⟩:=h3 hne
 exact ⟨ad,bk,h4,h5,h6⟩
theorem OwS.rr {w:Value} {cs:List Value} (h:OwS H w cs):RdR H w cs:=by
 rcases h with ⟨rfl,rfl⟩ | ⟨id,c,kd,rfl,hk,h1,h2⟩
 ·exact ⟨none,0,rfl,fun h=>absurd rfl h⟩
 ·exact ⟨_,c,rfl,fun _=>⟨_,_,rfl,h2,fun i v hv=>by rw [Nat.zero_add];exact hv⟩⟩
theorem RdR.rd {w:Value} {cs:List Value} (h:RdR H w cs):∃ a cap,w=.slice a cs.length cap∧∀ n,n≤cs.length→rdSlice H (n*1) a=some (cs.take n):=by
 obtain ⟨a,cap,rfl,h2⟩:=h
 refine ⟨a,cap,rfl,fun n hn=>?_⟩
 rw [Nat.mul_one]
 cases n with
 | zero=>cases a<;>rfl
 | succ n=>
   obtain ⟨ad,bk,rfl,h3,h4⟩:=h2 (fun e=>by subst e;simp at hn)
   have hz:(n+1).beq 0=false:=rfl
   simp only [rdSlice,hz,cond_false,h3]
   have hl:(cs.take (n+1)).length=n+1:=by rw [List.length_take];omega
   have:=takeCells_eq (cs:=bk.cells) (off:=ad.off) (l:=cs.take (n+1)) (fun i hi=>by
    rw [hl] at hi
    have hic:i<cs.length:=by omega
    rw [List.getElem?_take,if_pos hi,List.getElem?_eq_getElem hic]
    exact h4 i _ (List.getElem?_eq_getElem hic))
   rwa [hl] at this
def Ls.cells:Ls→List Value
 | .u l=>intV l
 | .b l=>boolV l
theorem all_u (l:List Int):(intV l).all scalar=true:=by
 rw [List.all_eq_true];intro c hc;obtain ⟨b,_,rfl⟩:=List.mem_map.1 hc;rfl
theorem all_b (l:List Bool):(boolV l).all scalar=true:=by
 rw [List.all_eq_true];intro c hc;obtain ⟨b,_,rfl⟩:=List.mem_map.1 hc;rfl
theorem Ls.plain (l:Ls):l.cells.all scalar=true:=by cases l with
 | u l=>exact all_u l
 | b l=>exact all_b l
theorem lsOf_ok (ho:Obs m s.objs H) {x:SV} {w:Value} {l:Ls} (h:lsOf (std C tb B D) s x=some l) (hx:Den (Own m s.objs) m H x w):RdR H w l.cells:=by
 unfold lsOf at h
 split at h
 ·obtain rfl:=Option.some.inj h;exact (show RdS _ H w _ from hx).rr
 ·obtain rfl:=Option.some.inj h;exact (show RdS _ H w _ from hx).rr
 ·obtain rfl:=Option.some.inj h
  obtain rfl:=(show w=_ from hx)
  exact ⟨none,0,rfl,fun h=>absurd rfl h⟩
 ·split at h
  ·rename_i l' hob
   obtain rfl:=Option.some.inj h
   exact OwS.rr (own_at ho hx hob (by simp)).2.2
  ·rename_i l' hob
   obtain rfl:=Option.some.inj h
   exact OwS.rr (own_at ho hx hob (by simp)).2.2
  ·rename_i hob
   obtain rfl:=Option.some.inj h
   obtain ⟨id,rfl,_⟩:=(own_at ho hx hob (by simp)).2.2
   exact ⟨_,_,rfl,fun h=>absurd rfl h⟩
  ·cases h
 ·rename_i i off len
  split at h
  ·rename_i l' hob
   obtain rfl:=Option.some.inj h
   simp only [Den] at hx
   obtain ⟨a,n,c,a',c',q1,rfl,q2,q3,q4,_,q5⟩:=hx
   obtain ⟨k1,k2⟩:=obj_at ho q1 hob (by simp)
   obtain ⟨a2,c2,e,_,k3⟩:=OwS.shape (show OwS H _ (intV l') from k2)
   rw [len_int] at e
   simp only [Value.slice.injEq] at e
   obtain ⟨rfl,rfl,rfl⟩:=e
   have hlen:(intV ((l'.drop off.toNat).take len.toNat)).length=len.toNat:=by rw [len_int,List.length_take,List.length_drop];omega
   refine ⟨a',c',by show _=Value.slice a' (intV ((l'.drop off.toNat).take len.toNat)).length c';rw [hlen],fun hne=>?_⟩
   have hl0:len≠0:=fun e=>hne (by subst e;simp [Ls.cells,intV,std])
   obtain ⟨id,rfl,rfl⟩:=q5 hl0
   obtain ⟨id',e,_,kd,_,k4⟩:=k3 (fun e=>by
    have:=congrArg List.length e
    rw [len_int] at this
    simp at this;subst this;simp at q4;omega)
   simp only [Option.some.injEq,Addr.mk.injEq] at e
   obtain ⟨rfl,_⟩:=e
   refine ⟨_,_,rfl,k4,fun i v hv=>?_⟩
   change (intV ((l'.drop off.toNat).take len.toNat))[i]?=some v at hv
   unfold intV at hv ⊢
   rw [List.getElem?_map,List.getElem?_take] at hv
   split at hv
   ·rw [List.getElem?_drop] at hv
    rw [List.getElem?_map];exact hv
   ·cases hv
  ·cases h
 ·cases h
theorem app_ok {vi u:Value} {cs ns:List Value} {os ox:Operand} {y:Nat} (hv:OwS H vi cs) (hu:RdR H u ns) (hp:ns.all scalar=true) (hl:cs.length+ns.length<2^36) (e1:ev E os=some vi) (e2:ev E ox=some u) :
  ∃ w H1,AL.hop E { H with wl:=H.n } (.append 1 y os ox)=some (w,H1)∧OwS { H1 with wl:=min H.wl H1.wl } w (cs++ns)∧H.n≤H1.n∧(∀ k,k<H.n→blkOf vi≠some k→H1.t.get k=H.t.get k)∧(∀ x,x≤H.n→(∀ id,blkOf vi=some id→x≤id)→x≤H1.wl)∧(∀ k,blkOf w=some k→H.n≤k∨blkOf vi=some k) ∧
    ((∃ id,vi=.slice (some ⟨id,0,none⟩) 0 0)→Nat.blt H1.wl H.n=false):=by
 obtain ⟨xa,xc,rfl,hrx⟩:=hu.rd
 have hrv:=hv.rr.rd
 by_cases hm:ns=[]
 ·subst hm
  obtain ⟨va,vc,rfl,_⟩:=hrv
  refine ⟨_,{ H with wl:=H.n },by simp only [AL.hop,e1,e2];rfl,?_,Nat.le_refl _,fun _ _ _=>rfl,fun x h _=>h,fun k hk=>.inr hk,fun _=>blt_self _⟩
  rw [List.append_nil]
  exact hv.same (Nat.le_refl _) (fun _ _=>rfl)
 ·have hz:ns.length.beq 0=false:=beq_zero (fun e=>hm (List.length_eq_zero_iff.1 e))
  have hm0:ns.length≠0:=fun e=>hm (List.length_eq_zero_iff.1 e)
  have hle:Nat.ble (2^36) (cs.length+ns.length)=false:=ble_false hl
  have r1:rdSlice { H with wl:=H.n } (ns.length*1) xa=some ns:=by
   have:=hrx ns.length (Nat.le_refl _)
   rwa [List.take_length] at this
  have r2:∀ {va:Option Addr} {vc:Nat},vi=.slice va cs.length vc→rdSlice { H with wl:=H.n } (cs.length*1) va=some cs:=by
   intro va vc e
   obtain ⟨va',vc',e',h⟩:=hrv
   rw [e] at e'
   cases e'
   have:=h cs.length (Nat.le_refl _)
   rwa [List.take_length] at this
  rcases hv with ⟨rfl,rfl⟩ | ⟨id,c,kd,rfl,hk,h1,h2⟩
  ·refine ⟨.slice (some ⟨H.n,0,none⟩) ns.length UC,({ H with wl:=H.n }:AH).new ⟨ns,3⟩,?_,?_,Nat.le_succ _,?_,fun x h _=>h,?_,?_⟩
   ·have r3:rdSlice { H with wl:=H.n } (0*1) none=some []:=rfl
    have hle':Nat.ble (2^36) (0+ns.length)=false:=by simpa using hle
    simp only [AL.hop,e1,e2,hz,cond_false,r1,r3,hp,Bool.not_true,Bool.or_false,hle']
    rfl
   ·exact .inr ⟨H.n,UC,3,rfl,.inl ⟨rfl,rfl⟩,Nat.lt_succ_self _,T.get_set_self _ _ _⟩
   ·intro k hk _
    show (H.t.set H.n _).get k=_
    rw [T.get_set_ne _ _ (by omega)]
   ·intro k e;cases e;exact .inl (Nat.le_refl _)
   ·rintro ⟨_,e⟩;cases e
  ·have r3:=r2 rfl
   rcases hk with ⟨rfl,rfl⟩ | ⟨rfl,rfl⟩
   ·refine ⟨.slice (some ⟨H.n,0,none⟩) (cs.length+ns.length) UC,(({ H with wl:=H.n }:AH).kill id).new ⟨cs++ns,3⟩,?_,?_,Nat.le_succ _,?_,?_,?_,?_⟩
    ·simp only [AL.hop,e1,e2,hz,cond_false,r1,r3,hp,hle,Bool.not_true,Bool.or_false,Nat.beq_refl,cond_true,h2]
     rfl
    ·exact .inr ⟨H.n,UC,3,by rw [List.length_append],.inl ⟨rfl,rfl⟩,Nat.lt_succ_self _,T.get_set_self _ _ _⟩
    ·intro k hk hne
     show ((H.t.del id).set H.n _).get k=_
     have:k≠id:=fun e=>hne (by rw [e];rfl)
     rw [T.get_set_ne _ _ (by omega),T.get_del,if_neg this]
    ·intro x hx h
     have:=h id rfl
     show x≤min H.n id
     omega
    ·intro k e;cases e;exact .inl (Nat.le_refl _)
    ·rintro ⟨_,e⟩
     simp only [Value.slice.injEq] at e
     exact absurd e.2.2 (by unfold UC;decide)
   ·refine ⟨.slice (some ⟨H.n,0,none⟩) (cs.length+ns.length) UC,({ H with wl:=H.n }:AH).new ⟨cs++ns,3⟩,?_,?_,Nat.le_succ _,?_,fun x h _=>h,?_,fun _=>blt_self _⟩
    ·have e3:cs.length.beq UC=false:=beq_false (by unfold UC;omega)
     have e4:Nat.blt cs.length (cs.length+ns.length)=true:=Nat.ble_eq_true_of_le (by omega)
     simp only [AL.hop,e1,e2,hz,cond_false,r1,r3,hp,hle,Bool.not_true,Bool.or_false,e3,e4,cond_true]
    ·exact .inr ⟨H.n,UC,3,by rw [List.length_append],.inl ⟨rfl,rfl⟩,Nat.lt_succ_self _,T.get_set_self _ _ _⟩
    ·intro k hk _
     show (H.t.set H.n _).get k=_
     rw [T.get_set_ne _ _ (by omega)]
    ·intro k e;cases e;exact .inl (Nat.le_refl _)
theorem forgetT_get (i:Nat):∀ (t:T SV) (k:Nat),(forgetT i t).get k=(t.get k).map (forgetV i)
 | .nil,k=>rfl
 | .node v l r,k=>by
   simp only [forgetT,T.get]
   cases k.beq 0 with
   | true=>cases v<;>rfl
   | false=>
     simp only [cond_false]
     cases (k % 2).beq 1 with
     | true=>exact forgetT_get i l _
     | false=>exact forgetT_get i r _
theorem forgetV_men (i:Nat) (x:SV):men i (forgetV i x)=false:=by
 unfold forgetV
 cases h:men i x with
 | true=>rfl
 | false=>exact h
theorem forgetL_men (i:Nat):∀ (xs:List SV),menL i (xs.map (forgetV i))=false
 | []=>rfl
 | x::xs=>by simp [menL,forgetV_men,forgetL_men i xs]
theorem DenL.forget {i:Nat}:∀ {xs:List SV} {ws:List Value},DenL A m H xs ws→DenL A m H (xs.map (forgetV i)) ws
 | [],ws,h=>h
 | x::xs,ws,h=>by
   simp only [DenL] at h
   obtain ⟨w,ws',rfl,h2,h3⟩:=h
   refine ⟨w,ws',rfl,?_,h3.forget⟩
   unfold forgetV
   cases men i x with
   | true=>exact trivial
   | false=>exact h2
theorem Sat.renew (hs:Sat tb B D m s E H) {i:Nat} {oi o':Obj} {vi v':Value} {H':AH} (hi:s.objs[i]?=some oi) (hdi:oi≠.dead) (hv:m[i]?=some vi) (hn:H.n≤H'.n)
  (hg:∀ id,id<H.n→blkOf vi≠some id→H'.t.get id=H.t.get id) (hw:∀ x,x≤H.wl→x≤H.n→(∀ id,blkOf vi=some id→x≤id)→x≤H'.wl) (hb:∀ id,blkOf v'=some id→H.n≤id∨blkOf vi=some id) (ho:ObjOk (fun _=>False) [] H' v' o') (hx:∀ cs,o'≠.x cs) (hox:∀ cs,oi≠.x cs) :
  Sat tb B D (m.set i v') (s.renew i o') E H'∧(m.set i v')[i]?=some v':=by
 have hil:i<s.objs.length:=(List.getElem?_eq_some_iff.1 hi).1
 refine hs.upd (o':=o') hi hdi hv hn hg hw hb (by simp [St.renew]) (by simp [St.renew,hil]) ?_ ?_ (fun ⟨cs,h⟩=>absurd h (hox cs)) ?_
 ·intro j o hj h
  simp only [St.renew,List.getElem?_set_ne (Ne.symm hj),List.getElem?_map] at h
  cases h0:s.objs[j]? with
  | none=>simp [h0] at h
  | some o0=>
    simp only [h0,Option.map_some,Option.some.injEq] at h
    refine ⟨o0,rfl,?_⟩
    cases o0 with
    | x cs=>subst h;exact .inr ⟨_,cs,rfl,rfl,fun A m H vs h=>⟨h.forget,.inr (forgetL_men i cs)⟩⟩
    | _=>subst h;exact .inl ⟨rfl,.inr rfl⟩
 ·intro t x hx
  simp only [St.renew,forgetT_get] at hx
  cases h0:s.env.get t with
  | none=>simp [h0] at hx
  | some y=>
    simp only [h0,Option.map_some,Option.some.injEq] at hx
    unfold forgetV at hx
    cases hm:men i y with
    | true=>simp [hm] at hx;subst hx;exact .inl ⟨rfl,y,rfl⟩
    | false=>simp [hm] at hx;subst hx;exact .inr ⟨rfl,.inr hm⟩
 ·intro _ _
  cases o' with
  | x cs=>exact absurd rfl (hx cs)
  | _=>exact ho
theorem appendS_ok {x y:SV} {ox oy:Operand} {z:Nat} {w v:Value} {K:SV→St→Bool→Prop} (hs:Sat tb B D m s E H) (h:appendS (std C tb B D) s x y K) (hx:Den (Own m s.objs) m H x w) (hy:Den (Own m s.objs) m H y v) (e1:ev E ox=some w) (e2:ev E oy=some v):ToW tb B D E H (AL.hop E { H with wl:=H.n } (.append 1 z ox oy)) K:=by
 have ho:=hs.obs
 obtain ⟨L,hL,hq⟩:=on_elim h;clear h
 have hr:=lsOf_ok ho hL hy
 have hpl:=L.plain
 split at hq
 ·obtain rfl:=(show w=_ from hx)
  have key:∀ {o:Obj} {K':Prop},L.cells.length<2^36→K (.s s.objs.length) (s.add o) true→(∀ {A m H w},OwS H w L.cells→ObjOk A m H w o)→ToW tb B D E H (AL.hop E { H with wl:=H.n } (.append 1 z ox oy)) K:=by
   intro o K' hb hk hob
   obtain ⟨w',H1,k1,k2,k3,k4,k5,k6,_⟩:=app_ok (y:=z) (.inl ⟨rfl,rfl⟩) hr hpl (by simpa using hb) e1 e2
   have hsh:∃ a n c,w'=.slice a n c:=by obtain ⟨a,c,e,_⟩:=k2.rr;exact ⟨a,_,c,e⟩
   obtain ⟨a,n,c,rfl⟩:=hsh
   obtain ⟨h1,_,h3⟩:=hs.add (o:=o) (v:=.slice a n c) (H':={ H1 with wl:=min H.wl H1.wl }) k3 (fun id hid=>k4 id hid (by simp [blkOf])) (fun x h1 h2=>by
    have:=k5 x h2 (fun id e=>by cases e)
    show x≤min H.wl H1.wl;omega) (fun id e=>by rcases k6 id e with h | h;exact h;cases h) (fun _ _=>hob (by simpa using k2))
   exact ToW.mk hk h1 k1 (den_s h3) (fun _=>rfl)
  split at hq
  ·rename_i l
   have c1:(0:Int)+(l.length:Int)<2^36:=hq.1
   exact key (K':=True) (by show (intV l).length<_;rw [len_int];omega) hq.2 (fun h=>h)
  ·rename_i l
   have c1:(0:Int)+(l.length:Int)<2^36:=hq.1
   exact key (K':=True) (by show (boolV l).length<_;rw [len_bool];omega) hq.2 (fun h=>h)
 ·rename_i i
  have key:∀ {oi o:Obj} {cs:List Value} {f:Bool},m[i]?=some w→s.objs[i]?=some oi→(oi≠.dead∧∀ cs,oi≠.x cs)→OwS H w cs→cs.length+L.cells.length<2^36→K (.s i) (s.renew i o) f→(∀ {A m H w},OwS H w (cs++L.cells)→ObjOk A m H w o)→(∀ cs,o≠.x cs)→(f=true∨∃ id,w=.slice (some ⟨id,0,none⟩) 0 0)→ToW tb B D E H (AL.hop E { H with wl:=H.n } (.append 1 z ox oy)) K:=by
   intro oi o cs f hm hi hdi hv hb hk hob hnx hf
   obtain ⟨w',H1,k1,k2,k3,k4,k5,k6,k7⟩:=app_ok (y:=z) hv hr hpl hb e1 e2
   have hsh:∃ a n c,w'=.slice a n c:=by obtain ⟨a,c,e,_⟩:=k2.rr;exact ⟨a,_,c,e⟩
   obtain ⟨a,n,c,rfl⟩:=hsh
   obtain ⟨h1,h3⟩:=hs.renew (o':=o) (v':=.slice a n c) (H':={ H1 with wl:=min H.wl H1.wl }) hi hdi.1 hm k3 k4 (fun x h1 h2 h3=>by
    have:=k5 x h2 h3
    show x≤min H.wl H1.wl;omega) k6 (hob k2) hnx hdi.2
   refine ToW.mk hk h1 k1 (den_s h3) (fun hb=>?_)
   rcases hf with hf | hf
   ·exact hf
   ·rw [k7 hf] at hb;cases hb
  split at hq
  ·rename_i l l' hob
   have c1:(l.length:Int)+(l'.length:Int)<2^36:=hq.1
   obtain ⟨q1,q2,q3⟩:=own_at ho hx hob (by simp)
   exact key (cs:=intV l) q1 q2 (by simp) q3 (by show (intV l).length+(intV l').length<_;rw [len_int,len_int];omega) hq.2 (fun h=>by show OwS _ _ (intV (l++l'));unfold intV;rw [List.map_append];exact h) (by simp) (.inl rfl)
  ·rename_i l l' hob
   have c1:(l.length:Int)+(l'.length:Int)<2^36:=hq.1
   obtain ⟨q1,q2,q3⟩:=own_at ho hx hob (by simp)
   exact key (cs:=boolV l) q1 q2 (by simp) q3 (by show (boolV l).length+(boolV l').length<_;rw [len_bool,len_bool];omega) hq.2 (fun h=>by show OwS _ _ (boolV (l++l'));unfold boolV;rw [List.map_append];exact h) (by simp) (.inl rfl)
  ·rename_i l' hob
   have c1:(0:Int)+(l'.length:Int)<2^36:=hq.1
   obtain ⟨q1,q2,id,rfl,q4,q5⟩:=own_at ho hx hob (by simp)
   exact key (cs:=[]) q1 q2 (by simp) (.inr ⟨id,0,0,rfl,.inr ⟨rfl,rfl⟩,q4,q5⟩) (by show 0+(intV l').length<_;rw [len_int];omega) hq.2 (fun h=>h) (by simp) (.inr ⟨id,rfl⟩)
  ·rename_i l' hob
   have c1:(0:Int)+(l'.length:Int)<2^36:=hq.1
   obtain ⟨q1,q2,id,rfl,q4,q5⟩:=own_at ho hx hob (by simp)
   exact key (cs:=[]) q1 q2 (by simp) (.inr ⟨id,0,0,rfl,.inr ⟨rfl,rfl⟩,q4,q5⟩) (by show 0+(boolV l').length<_;rw [len_bool];omega) hq.2 (fun h=>h) (by simp) (.inr ⟨id,rfl⟩)
  ·exact hq.elim
 ·exact hq.elim
end
end Go.SX
end
section
set_option linter.unusedVariables false
set_option linter.unusedSimpArgs false
set_option linter.unusedSectionVars false
namespace Go.SX
open Go.AL
section
variable {A:Nat→Prop} {m:List Value} {H:AH} {E:Env} {C:Ctx} {tb:List (List Int)} {B:AH} {D:Bs} {s:St}
theorem Den.wl {x:SV} {w:Value} {y:Nat} (h:Den A m H x w):Den A m { H with wl:=y } x w:=Den.mono (H:=H) (H':={ H with wl:=y }) (fun _ _ h=>h) (Nat.le_refl _) (fun _ _ _=>rfl) x w (fun _ _ _ h=>h) h
theorem Sat.wl (hs:Sat tb B D m s E H) {y:Nat} (hy:∀ x,x≤H.wl→x≤H.n→x≤y):Sat tb B D m s E { H with wl:=y }:=by
 refine ⟨⟨hs.obs.len,fun i o v h1 h2=>?_,hs.obs.dis⟩,hs.own,fun t x hx=>?_,⟨hs.fr.n,hs.fr.get,fun x h1 h2 h3=>hy x (hs.fr.wl x h1 h2 h3) (Nat.le_trans h2 hs.fr.n)⟩,hs.fix,hs.gl⟩
 ·exact ObjOk.same (H:=H) (H':={ H with wl:=y }) (fun _ _ h=>h) (Nat.le_refl _) (fun _ _ _=>rfl) (fun _ _=>rfl) (fun _ _ _ h=>h) (hs.obs.ok i o v h1 h2)
 ·obtain ⟨w,e1,e2⟩:=hs.env t x hx
  exact ⟨w,e1,e2.wl⟩
theorem mn_nat (a b:Nat):AL.mn (a:Int) (b:Int)=((Nat.min a b:Nat):Int):=by
 unfold AL.mn
 show _=((min a b:Nat):Int)
 split<;>omega
theorem copy_ok {ox oy:Operand} {w v vi:Value} {K:SV→St→Bool→Prop} {i off dl:Nat} {a':Option Addr} {c':Nat} {l ms:List Int} (hs:Sat tb B D m s E H) (hi:s.objs[i]?=some (.u l)) (hm:m[i]?=some vi) (hv:OwS H vi (intV l)) (hw:w=.slice a' dl c')
  (ha:dl≠0→∃ id c,vi=.slice (some ⟨id,0,none⟩) l.length c∧a'=some ⟨id,off,none⟩) (hol:off+dl≤l.length) (hr:RdR H v (intV ms)) (e1:ev E ox=some w) (e2:ev E oy=some v)
  (h:K (.i .i64 ((Nat.min ms.length dl:Nat):Int)) (s.setO i (.u (cpS l off (ms.take (Nat.min ms.length dl))))) true):ToW tb B D E H (AL.hop E { H with wl:=H.n } (.copy 1 ox oy)) K:=by
 obtain ⟨sa,sc,rfl,hrd⟩:=hr.rd
 subst hw
 rw [len_int] at e2 hrd
 have hil:i<s.objs.length:=(List.getElem?_eq_some_iff.1 hi).1
 by_cases hn:Nat.min ms.length dl=0
 ·rw [hn] at h
  have he:s.setO i (.u (cpS l off (ms.take 0)))=s:=by
   have:cpS l off (ms.take 0)=l:=by simp [cpS]
   rw [this]
   unfold St.setO
   have:s.objs.set i (.u l)=s.objs:=by
    apply List.ext_getElem?
    intro j
    by_cases hj:j=i
    ·subst hj;rw [List.getElem?_set_self hil];exact hi.symm
    ·rw [List.getElem?_set_ne (Ne.symm hj)]
   rw [this]
  rw [he] at h
  refine ToW.mk (w:=.int .i64 0) (H1:={ H with wl:=H.n }) h (hs.wl (fun x h1 h2=>by show x≤min H.wl H.n;omega)) ?_ rfl (fun _=>rfl)
  simp only [AL.hop,e1,e2,hn]
  rfl
 ·have hz:(Nat.min ms.length dl).beq 0=false:=beq_zero hn
  have hdl:dl≠0:=fun e=>hn (by subst e;exact Nat.min_zero _)
  obtain ⟨id,c,rfl,rfl⟩:=ha hdl
  have r1:=hrd (Nat.min ms.length dl) (Nat.min_le_left _ _)
  have r1':rdSlice { H with wl:=H.n } (Nat.min ms.length dl*1) sa=some (intV (ms.take (Nat.min ms.length dl))):=by
   unfold intV;rw [List.map_take];exact r1
  have hblk:∃ kd,id<H.n∧H.t.get id=some ⟨intV l,kd⟩∧((c=UC∧kd=3)∨(c=(intV l).length∧kd=0)):=by
   rcases hv with ⟨e,_⟩ | ⟨id',c',kd,e,hk,h1,h2⟩
   ·cases e
   ·simp only [Value.slice.injEq,Option.some.injEq,Addr.mk.injEq] at e
    obtain ⟨⟨rfl,_⟩,_,rfl⟩:=e
    exact ⟨kd,h1,h2,hk⟩
  obtain ⟨kd,g1,g2,g3⟩:=hblk
  have hkd:kd.beq 1=false:=by rcases g3 with ⟨_,rfl⟩ | ⟨_,rfl⟩<;>rfl
  have hmin:Nat.min ms.length dl≤dl:=Nat.min_le_right _ _
  have hmin':Nat.min ms.length dl≤ms.length:=Nat.min_le_left _ _
  have hlt:(ms.take (Nat.min ms.length dl)).length=Nat.min ms.length dl:=by rw [List.length_take];omega
  have hput:putCells (intV l) off (intV (ms.take (Nat.min ms.length dl)))=some (intV (cpS l off (ms.take (Nat.min ms.length dl)))):=by
   unfold putCells
   have hle:Nat.ble (off+(intV (ms.take (Nat.min ms.length dl))).length) (intV l).length=true:=Nat.ble_eq_true_of_le (by rw [len_int,len_int,hlt];omega)
   simp only [hle,cond_true,Option.some.injEq]
   rw [len_int]
   unfold intV cpS
   simp only [List.map_append,List.map_take,List.map_drop,Int.toNat_natCast]
  have hlen:(cpS l off (ms.take (Nat.min ms.length dl))).length=l.length:=by
   simp only [cpS,List.length_append,List.length_drop,hlt,List.length_take,Int.toNat_natCast];omega
  refine ToW.mk (w:=.int .i64 ((Nat.min ms.length dl:Nat):Int)) (H1:=⟨H.t.set id ⟨intV (cpS l off (ms.take (Nat.min ms.length dl))),kd⟩,H.n,min H.n id⟩) h (hs.setO hi (by simp) hm rfl rfl (fun ⟨_,h⟩=>by cases h) fun _ _=>?_) ?_ rfl (fun _=>rfl)
  ·change OwS _ _ (intV (cpS l off (ms.take (Nat.min ms.length dl))))
   refine .inr ⟨id,c,kd,by rw [len_int,hlen],?_,g1,T.get_set_self _ _ _⟩
   rw [len_int,hlen];rw [len_int] at g3;exact g3
  ·simp only [AL.hop,e1,e2,hz,cond_false,r1',g2,hkd,all_u,Bool.not_true,Bool.or_self,hput]
   rfl
theorem copyS_ok {x y:SV} {ox oy:Operand} {w v:Value} {K:SV→St→Bool→Prop} (hs:Sat tb B D m s E H) (h:copyS (std C tb B D) s x y fun v s=>K v s true) (hx:Den (Own m s.objs) m H x w) (hy:Den (Own m s.objs) m H y v) (e1:ev E ox=some w) (e2:ev E oy=some v):ToW tb B D E H (AL.hop E { H with wl:=H.n } (.copy 1 ox oy)) K:=by
 have ho:=hs.obs
 obtain ⟨L,hL,hq⟩:=on_elim h;clear h
 have hr:=lsOf_ok ho hL hy
 split at hq
 ·rename_i ms
  split at hq
  ·rename_i i
   split at hq
   ·rename_i l hob
    obtain ⟨q1,q2,q3⟩:=own_at ho hx hob (by simp)
    have q3:OwS H w (intV l):=q3
    obtain ⟨a,c,rfl,_,q4⟩:=q3.shape
    rw [len_int] at q1 q3 hx e1
    have e:=mn_nat ms.length l.length
    refine copy_ok (off:=0) (dl:=l.length) (l:=l) (ms:=ms) hs q2 q1 q3 rfl (fun hne=>?_) (by omega) hr e1 e2 ?_
    ·obtain ⟨id,rfl,_⟩:=q4 (fun e=>hne (by have:=congrArg List.length e;rw [len_int] at this;exact this))
     exact ⟨id,c,rfl,rfl⟩
    ·have hq':K (.i .i64 (AL.mn (ms.length:Int) (l.length:Int))) (s.setO i (.u (cpS l 0 (ms.take (AL.mn (ms.length:Int) (l.length:Int)).toNat)))) true:=hq
     rw [e] at hq'
     exact hq'
   ·exact hq.elim
  ·rename_i i off len
   split at hq
   ·rename_i l hob
    simp only [Den] at hx
    obtain ⟨a,n,c,a',c',p1,rfl,p2,p3,p4,_,p5⟩:=hx
    obtain ⟨q2,q3⟩:=obj_at ho p1 hob (by simp)
    have q3:OwS H (.slice a n c) (intV l):=q3
    obtain ⟨a2,c2,e,_,q4⟩:=q3.shape
    rw [len_int] at e
    simp only [Value.slice.injEq] at e
    obtain ⟨rfl,rfl,rfl⟩:=e
    have e:=mn_nat ms.length len.toNat
    rw [Int.toNat_of_nonneg p3] at e
    refine copy_ok (off:=off.toNat) (dl:=len.toNat) (l:=l) (ms:=ms) hs q2 p1 q3 rfl (fun hne=>?_) p4 hr e1 e2 ?_
    ·obtain ⟨id,rfl,rfl⟩:=p5 (by omega)
     exact ⟨id,c,rfl,rfl⟩
    ·have hq':K (.i .i64 (AL.mn (ms.length:Int) len)) (s.setO i (.u (cpS l off (ms.take (AL.mn (ms.length:Int) len).toNat)))) true:=hq
     rw [e] at hq'
     have:((off.toNat:Nat):Int)=off:=Int.toNat_of_nonneg p2
     rw [this]
     exact hq'
   ·exact hq.elim
  ·exact hq.elim
 ·exact hq.elim
theorem wrtS {op:IOp} {K:SV→St→Bool→Prop} (h:Wop (std C tb B D) tb op s K) (hw:op.wrt=true) (hc:∀ f args,op≠.call f args) (hs:Sat tb B D m s E H):ToW tb B D E H (AL.hop E { H with wl:=H.n } op) K:=by
 have he:=hs.env
 cases op with
 | store sz x y=>
   obtain ⟨x1,q1,hq⟩:=on_elim h;clear h
   obtain ⟨y1,q2,h⟩:=on_elim hq;clear hq
   obtain ⟨w,k1,k2⟩:=sev_ok he q1
   obtain ⟨v,k3,k4⟩:=sev_ok he q2
   exact storeS_ok hs h k2 k4 k1 k3
 | append esz z x y=>
   obtain ⟨x1,q1,hq⟩:=on_elim h;clear h
   obtain ⟨y1,q2,h⟩:=on_elim hq;clear hq
   obtain ⟨q3,hq⟩:=when_elim h;clear h
   obtain rfl:=Nat.eq_of_beq_eq_true q3
   obtain ⟨w,k1,k2⟩:=sev_ok he q1
   obtain ⟨v,k3,k4⟩:=sev_ok he q2
   exact appendS_ok hs hq k2 k4 k1 k3
 | copy esz x y=>
   obtain ⟨x1,q1,hq⟩:=on_elim h;clear h
   obtain ⟨y1,q2,h⟩:=on_elim hq;clear hq
   obtain ⟨q3,hq⟩:=when_elim h;clear h
   obtain rfl:=Nat.eq_of_beq_eq_true q3
   obtain ⟨w,k1,k2⟩:=sev_ok he q1
   obtain ⟨v,k3,k4⟩:=sev_ok he q2
   exact copyS_ok hs hq k2 k4 k1 k3
 | call f args=>exact absurd rfl (hc f args)
 | _=>cases hw
theorem Sat.put (hs:Sat tb B D m s E H) {d:Option Nat} {x:SV} {w:Value} (h:Den (Own m s.objs) m H x w):Sat tb B D m (s.put d x) (AL.put E d w) H:=by
 cases d with
 | none=>exact hs
 | some d=>
   refine ⟨hs.obs,hs.own,fun t y hy=>?_,hs.fr,hs.fix,hs.gl⟩
   change (s.env.set d x).get t=some y at hy
   change ∃ w',(T.set E d w).get t=some w'∧_
   rw [T.get_set] at hy ⊢
   split at hy
   ·rename_i e
    rw [if_pos e]
    obtain rfl:=Option.some.inj hy
    exact ⟨w,rfl,h⟩
   ·rename_i e
    rw [if_neg e]
    exact hs.env t y hy
theorem Sat.tell (hs:Sat tb B D m s E H) {t:Nat} {c:Bool} (h:E.get t=some (.bool c)):Sat tb B D m (s.put (some t) (.kb c)) E H:=by
 refine ⟨hs.obs,hs.own,fun t' y hy=>?_,hs.fr,hs.fix,hs.gl⟩
 change (s.env.set t (.kb c)).get t'=some y at hy
 rw [T.get_set] at hy
 split at hy
 ·rename_i e
  subst e
  obtain rfl:=Option.some.inj hy
  exact ⟨_,h,rfl⟩
 ·exact hs.env t' y hy
theorem wop_ok {d:Option Nat} {g:Option (Nat×Bool)} {op:IOp} {os:List IOper} {K:SV→St→Bool→Prop} {Q:Env→AH→List (Bool×Bool)→Prop} (hg:wanted E g=some true) (h:Wop (std C tb B D) tb op s K) (hs:Sat tb B D m s E H)
  (hk:∀ x s' f E' H' m' b,K x s' f→Sat tb B D m' (s'.put d x) E' H'→(b=true→f=true)→Ow C os E' H' fun E'' H'' fl=>Q E'' H'' ((op.touch,b)::fl)):Ow C (⟨d,g,op⟩::os) E H Q:=by
 cases ht:op.touch with
 | false=>
   obtain ⟨w,x,h1,h2,h3⟩:=pureS h ht hs
   rw [ht] at hk
   exact Ow.pop hg ht h1 (hk x s false _ _ m false h3 (hs.put h2) (fun h=>h))
 | true=>
   rw [ht] at hk
   cases hw:op.wrt with
   | false=>
     obtain ⟨w,x,s',H1,m',h1,h2,h3,h4⟩:=hopS h ht hw hs
     exact Ow.hop hg ht hw h1 (hk x s' false _ _ m' false h4 (h2.put h3) (fun h=>h))
   | true=>
     by_cases hc:∃ f args,op=.call f args
     ·obtain ⟨f,args,rfl⟩:=hc
      obtain ⟨f1,q1,hq⟩:=on_elim h;clear h
      obtain ⟨vs1,q2,h⟩:=on_elim hq;clear hq
      obtain ⟨vf,k1,k2⟩:=sev_ok hs.env q1
      obtain ⟨vvs,k3,k4⟩:=sevs_ok hs.env q2
      obtain ⟨k,fs,cs,rfl,hr⟩:=h m E H vf vvs hs k2 k4
      refine Ow.call hg k1 k3 hr ?_
      rintro v H1 ⟨x,s',f,m',p1,p2,p3,p4⟩
      exact ⟨_,rfl,hk x s' f _ _ m' _ p1 (p2.put p3.wl) p4⟩
     ·obtain ⟨w,x,s',H1,m',f,h1,h2,h3,h4,h5⟩:=wrtS h hw (fun f args e=>hc ⟨f,args,e⟩) hs
      exact Ow.wop hg ht hw h1 rfl (hk x s' f _ _ m' _ h4 (h2.put h3) h5)
def FlLe:List (Bool×Bool)→List (Bool×Bool)→Prop
 | [],[]=>True
 | a::as,b::bs=>(a.1=b.1∧(a.2=true→b.2=true))∧FlLe as bs
 | _,_=>False
theorem FlLe.len:∀ {as bs:List (Bool×Bool)},FlLe as bs→as.length=bs.length
 | [],[],_=>rfl
 | a::as,b::bs,h=>by simp [FlLe.len h.2]
theorem FlLe.get:∀ {as bs:List (Bool×Bool)} (i:Nat),FlLe as bs→(as.getD i (false,false)).1=(bs.getD i (false,false)).1∧((as.getD i (false,false)).2=true→(bs.getD i (false,false)).2=true)
 | [],[],i,_=>⟨rfl,fun h=>h⟩
 | a::as,b::bs,0,h=>h.1
 | a::as,b::bs,i+1,h=>by simpa using FlLe.get i h.2
theorem FlLe.all:∀ {as bs:List (Bool×Bool)},FlLe as bs→bs.all (fun x=>!x.2)=true→as.all (fun x=>!x.2)=true
 | [],[],_,h=>rfl
 | a::as,b::bs,h,hb=>by
   simp only [List.all_cons,Bool.and_eq_true,Bool.not_eq_true'] at hb ⊢
   refine ⟨?_,FlLe.all h.2 hb.2⟩
   cases ha:a.2 with
   | false=>rfl
   | true=>rw [h.1.2 ha] at hb;cases hb.1
theorem okDraw_le {bits:List Nat} {as bs:List (Bool×Bool)} (h:FlLe as bs) (hb:okDraw bits bs=true):okDraw bits as=true:=by
 unfold okDraw at hb ⊢
 rw [Bool.or_eq_true] at hb ⊢
 rcases hb with hb | hb
 ·exact .inl (h.all hb)
 ·refine .inr ?_
  rw [h.len]
  rw [List.all_eq_true] at hb ⊢
  intro j hj
  have h1:=hb j hj
  rw [List.all_eq_true] at h1 ⊢
  intro i hi
  have h2:=h1 i hi
  have g1:=h.get i
  have g2:=h.get j
  simp only [pairOk,g1.1,g2.1] at h2 ⊢
  revert h2 g1 g2
  generalize as.getD i (false,false)=a
  generalize as.getD j (false,false)=a'
  generalize bs.getD i (false,false)=b
  generalize bs.getD j (false,false)=b'
  obtain ⟨a1,a2⟩:=a
  obtain ⟨a1',a2'⟩:=a'
  obtain ⟨b1,b2⟩:=b
  obtain ⟨b1',b2'⟩:=b'
  generalize (bits.getD j 0).testBit i=t
  intro h2 g1 g2
  revert h2 g1 g2
  cases a2<;>cases a2'<;>cases b2<;>cases b2'<;>cases b1<;>cases b1'<;>cases t<;>simp
theorem WO_ok:∀ {os:List IOper} {s:St} {fl:List (Bool×Bool)} {K:St→List (Bool×Bool)→Prop} {m:List Value} {E:Env} {H:AH},WO (std C tb B D) tb os s fl K→Sat tb B D m s E H→Ow C os E H fun E' H' f'=>∃ s' m' f2,K s' (fl.reverse++f2)∧FlLe f' f2∧Sat tb B D m' s' E' H'
 | [],s,fl,K,m,E,H,h,hs=>Ow.nil ⟨s,m,[],by rw [List.append_nil];exact h,trivial,hs⟩
 | ⟨d,g,op⟩::os,s,fl,K,m,E,H,h,hs=>by
   have exec:∀ {s:St} {E:Env} {H:AH} {m:List Value},Sat tb B D m s E H→wanted E g=some true→(Wop (std C tb B D) tb op s fun v s' w=>WO (std C tb B D) tb os (s'.put d v) ((op.touch,w)::fl) K) →
     Ow C (⟨d,g,op⟩::os) E H fun E' H' f'=>∃ s' m' f2,K s' (fl.reverse++f2)∧FlLe f' f2∧Sat tb B D m' s' E' H':=by
    intro s E H m hs hg h
    refine wop_ok hg h hs fun x s' f E' H' m' b h1 h2 h3=>?_
    refine (WO_ok h1 h2).mono ?_
    rintro E'' H'' fl' ⟨s2,m2,f2,k1,k2,k3⟩
    exact ⟨s2,m2,(op.touch,f)::f2,by simpa using k1,⟨⟨rfl,h3⟩,k2⟩,k3⟩
   have skip:∀ {s:St} {E:Env} {H:AH} {m:List Value},Sat tb B D m s E H→wanted E g=some false→WO (std C tb B D) tb os (s.put d (.t [])) ((false,false)::fl) K →
     Ow C (⟨d,g,op⟩::os) E H fun E' H' f'=>∃ s' m' f2,K s' (fl.reverse++f2)∧FlLe f' f2∧Sat tb B D m' s' E' H':=by
    intro s E H m hs hg h
    refine Ow.pass hg ((WO_ok h (hs.put (w:=undefA) ⟨[],rfl,rfl⟩)).mono ?_)
    rintro E'' H'' fl' ⟨s2,m2,f2,k1,k2,k3⟩
    exact ⟨s2,m2,(false,false)::f2,by simpa using k1,⟨⟨rfl,fun h=>h⟩,k2⟩,k3⟩
   cases g with
   | none=>exact exec hs rfl h
   | some p=>
     obtain ⟨t,c⟩:=p
     simp only [WO] at h
     split at h
     ·rename_i x hx
      obtain ⟨w,e1,e2⟩:=hs.env t _ hx
      obtain rfl:=(show w=_ from e2)
      have hw:wanted E (some (t,c))=some (c == x):=by simp only [wanted,e1]
      cases hcx:(c == x) with
      | true=>rw [hcx] at h hw;exact exec hs hw h
      | false=>rw [hcx] at h hw;exact skip hs hw h
     ·rename_i x hx
      obtain ⟨w,e1,e2⟩:=hs.env t _ hx
      obtain rfl:=(show w=_ from e2)
      have hw:wanted E (some (t,c))=some (c == x):=by simp only [wanted,e1]
      cases c with
      | true=>
        cases x with
        | true=>exact exec (hs.tell e1) hw (h.1 rfl)
        | false=>exact skip (hs.tell e1) hw (h.2 rfl)
      | false=>
        cases x with
        | true=>exact skip (hs.tell e1) hw (h.1 rfl)
        | false=>exact exec (hs.tell e1) hw (h.2 rfl)
     ·rename_i hx
      obtain ⟨w,e1,e2⟩:=hs.env t _ hx
      obtain ⟨vs,rfl,e3⟩:=e2
      simp only [DenL] at e3
      subst e3
      exact skip hs (by simp only [wanted,e1]) h
     ·exact h.elim
theorem W_ok:∀ {ic:IC} {s:St} {k:Ctl→St→Prop} {m:List Value} {E:Env} {H:AH},W (std C tb B D) tb ic s k→Sat tb B D m s E H→Cw C ic E H fun c E' H'=>∃ s' m',k c s'∧Sat tb B D m' s' E' H'
 | .skip,s,k,m,E,H,h,hs=>Cw.skip ⟨s,m,h,hs⟩
 | .exit id,s,k,m,E,H,h,hs=>Cw.exit ⟨s,m,h,hs⟩
 | .ret,s,k,m,E,H,h,hs=>Cw.ret ⟨s,m,h,hs⟩
 | .loop b,s,k,m,E,H,h,hs=>h m E H hs
 | .region dr ops bits,s,k,m,E,H,h,hs=>by
   refine Cw.region ((WO_ok h hs).mono ?_)
   rintro E' H' fl ⟨s',m',f2,k1,k2,k3⟩
   cases dr with
   | false=>exact ⟨nofun,s',m',k1,k3⟩
   | true=>exact ⟨fun _=>okDraw_le k2 k1.1,s',m',k1.2,k3⟩
 | .seq a b,s,k,m,E,H,h,hs=>by
   refine Cw.seq ((W_ok (ic:=a) h hs).mono ?_)
   rintro c E' H' ⟨s',m',k1,k2⟩
   cases c with
   | normal=>exact W_ok (ic:=b) k1 k2
   | exit id=>exact ⟨s',m',k1,k2⟩
   | ret=>exact ⟨s',m',k1,k2⟩
 | .block id b,s,k,m,E,H,h,hs=>by
   refine Cw.block ((W_ok (ic:=b) h hs).mono ?_)
   rintro c E' H' ⟨s',m',k1,k2⟩
   cases c with
   | normal=>exact ⟨s',m',k1,k2⟩
   | exit id=>exact ⟨s',m',k1,k2⟩
   | ret=>exact ⟨s',m',k1,k2⟩
 | .cond x a b,s,k,m,E,H,h,hs=>by
   obtain ⟨c,h1,h2⟩:=on_elim h
   obtain ⟨w,e1,e2⟩:=sev_ok hs.env h1
   have htell:∀ {c:Bool},w=.bool c→Sat tb B D m (tellC x c s) E H:=by
    rintro c rfl
    cases x with
    | tmp t=>exact hs.tell e1
    | _=>exact hs
   split at h2
   ·obtain rfl:=(show w=_ from e2)
    exact Cw.cond e1 (by rw [if_pos rfl];exact W_ok (ic:=a) h2 hs)
   ·obtain rfl:=(show w=_ from e2)
    exact Cw.cond e1 (by rw [if_neg (by simp)];exact W_ok (ic:=b) h2 hs)
   ·rename_i q
    obtain rfl:=(show w=_ from e2)
    cases q with
    | true=>exact Cw.cond e1 (by rw [if_pos rfl];exact W_ok (ic:=a) (h2.1 rfl) (htell rfl))
    | false=>exact Cw.cond e1 (by rw [if_neg (by simp)];exact W_ok (ic:=b) (h2.2 rfl) (htell rfl))
   ·exact h2.elim
end
end Go.SX
end
section
set_option linter.unusedVariables false
set_option linter.unusedSimpArgs false
set_option linter.unusedSectionVars false
namespace Go.SX
open Go.AL
mutual
def sh (n:Nat):SV→SV
 | .s i=>.s (n+i)
 | .ss i off len=>.ss (n+i) off len
 | .si i ix=>.si (n+i) ix
 | .o i off=>.o (n+i) off
 | .os i off c e=>.os (n+i) off c e
 | .r e cs=>.r e (shL n cs)
 | .p cs=>.p (shL n cs)
 | .a l=>.a (shL n l)
 | .t l=>.t (shL n l)
 | .f k fs cs=>.f k (shL n fs) (shL n cs)
 | x=>x
def shL (n:Nat):List SV→List SV
 | []=>[]
 | x::xs=>sh n x::shL n xs
end
def shO (n:Nat):Obj→Obj
 | .x cs=>.x (shL n cs)
 | o=>o
def shOs (n:Nat):List Obj→List Obj
 | []=>[]
 | o::os=>shO n o::shOs n os
mutual
def tok:SV→Bool
 | .s _=>true
 | .ss _ _ _=>true
 | .si _ _=>true
 | .o _ _=>true
 | .os _ _ _ _=>true
 | .r _ cs=>tokL cs
 | .p cs=>tokL cs
 | .a l=>tokL l
 | .t l=>tokL l
 | .f _ fs cs=>tokL fs||tokL cs
 | _=>false
def tokL:List SV→Bool
 | []=>false
 | x::xs=>tok x||tokL xs
end
mutual
theorem tok_men {j:Nat}:∀ (x:SV),tok x=false→men j x=false
 | .s _,h=>by cases h
 | .ss _ _ _,h=>by cases h
 | .si _ _,h=>by cases h
 | .o _ _,h=>by cases h
 | .os _ _ _ _,h=>by cases h
 | .r _ cs,h=>by simp only [tok,men] at h ⊢;exact tokL_men cs h
 | .p cs,h=>by simp only [tok,men] at h ⊢;exact tokL_men cs h
 | .a cs,h=>by simp only [tok,men] at h ⊢;exact tokL_men cs h
 | .t cs,h=>by simp only [tok,men] at h ⊢;exact tokL_men cs h
 | .f _ fs cs,h=>by
   simp only [tok,men,Bool.or_eq_false_iff] at h ⊢
   exact ⟨tokL_men fs h.1,tokL_men cs h.2⟩
 | .fq _ _ _,_=>rfl
 | .v _,_=>rfl
 | .i _ _,_=>rfl
 | .n _ _,_=>rfl
 | .b _,_=>rfl
 | .kb _,_=>rfl
 | .nil,_=>rfl
 | .u _,_=>rfl
 | .bl _,_=>rfl
 | .g _,_=>rfl
 | .any,_=>rfl
theorem tokL_men {j:Nat}:∀ (xs:List SV),tokL xs=false→menL j xs=false
 | [],_=>rfl
 | x::xs,h=>by
   simp only [tokL,menL,Bool.or_eq_false_iff] at h ⊢
   exact ⟨tok_men x h.1,tokL_men xs h.2⟩
end
def pos (i:Nat):List Nat→Nat→Option Nat
 | [],_=>none
 | j::js,p=>bif j.beq i then some p else pos i js (p+1)
def mapO (f:SV→Option SV):List SV→Option (List SV)
 | []=>some []
 | x::xs=>match f x,mapO f xs with
   | some y,some ys=>some (y::ys)
   | _,_=>none
def rd (G:Sg) (s:St) (ci:List Nat) (nb:Bool):Nat→SV→Option SV
 | 0,_=>none
 | n+1,x=>match x with
   | .s i=>(match pos i ci 0 with
     | some p=>some (.s p)
     | none=>match objAt s i with
       | .u l=>some (.u l)
       | .b l=>some (.bl l)
       | .e=>some (.u [])
       | _=>none)
   | .ss i off len=>(match pos i ci 0 with
     | some _=>none
     | none=>match objAt s i with
       | .u l=>some (.u (G.tu (G.du l off) len))
       | _=>none)
   | .o i off=>(match pos i ci 0 with
     | some _=>none
     | none=>match objAt s i with
       | .x cs=>(match mapO (rd G s ci nb n) (cs.drop off) with
         | some cs=>some (.p cs)
         | none=>none)
       | _=>none)
   | .os i off c e=>(match pos i ci 0 with
     | some _=>none
     | none=>match objAt s i with
       | .x cs=>bif ((cs.drop off).take (c*e)).length.beq (c*e) then (match mapO (rd G s ci nb n) ((cs.drop off).take (c*e)) with
         | some cs=>some (.r e cs)
         | none=>none) else none
       | _=>none)
   | .r e cs=>(match mapO (rd G s ci nb n) cs with
     | some cs=>some (.r e cs)
     | none=>none)
   | .p cs=>(match mapO (rd G s ci nb n) cs with
     | some cs=>some (.p cs)
     | none=>none)
   | .a l=>(match mapO (rd G s ci nb n) l with
     | some l=>some (.a l)
     | none=>none)
   | .t l=>(match mapO (rd G s ci nb n) l with
     | some l=>some (.t l)
     | none=>none)
   | .f k fs cs=>(match mapO (rd G s ci nb n) fs,mapO (rd G s ci nb n) cs with
     | some fs,some cs=>bif (tokL fs||tokL cs) then none else some (.fq k fs cs)
     | _,_=>none)
   | .si _ _=>none
   | .any=>none
   | .n k x=>some (.i k (.ofNat x))
   | .kb x=>some (.b x)
   | .nil=>some (bif nb then .bl [] else .u [])
   | x=>some x
def ownSl:Obj→Bool
 | .e=>true
 | .u _=>true
 | .b _=>true
 | _=>false
def plainO:Obj→Obj
 | .e=>.u []
 | o=>o
def getO (s:St):List Nat→Option (List Obj)
 | []=>some []
 | i::is=>bif (ownSl (objAt s i)&&(pos i is 0).isNone) then (match getO s is with
   | some os=>some (plainO (objAt s i)::os)
   | none=>none) else none
def killO:List Nat→List Obj→List Obj
 | [],os=>os
 | i::is,os=>killO is (os.set i .dead)
def St.after (s:St) (ci:List Nat) (ro:List Obj):St:=⟨s.env,killO ci s.objs++shOs s.objs.length ro⟩
def closedV:SV→Bool
 | .i _ _=>true
 | .n _ _=>true
 | .b _=>true
 | .kb _=>true
 | .nil=>true
 | .v _=>true
 | .f _ fs cs=>fs.isEmpty&&cs.isEmpty
 | .fq _ fs cs=>fs.isEmpty&&cs.isEmpty
 | _=>false
def okO:Obj→Bool
 | .x cs=>cs.all closedV
 | .dead=>false
 | _=>true
def FvC (C:Ctx) (tb:List (List Int)) (fv:SV) (args:List SV) (ao:List Obj) (Q:SV→List Obj→Prop):Prop:=
 ∀ (H:AH) (m:List Value) (vf:Value) (vs:List Value),Obs m ao H→Gl tb H→Den (Own m ao) m H fv vf→DenL (Own m ao) m H args vs→∃ k fs cs,vf=.func (.func k) ⟨fs⟩ ⟨cs⟩ ∧
   Run C k (fs++(vs++cs)) H fun v H'=>∃ m' r ro,Q r ro∧Obs m' ro H'∧ro.all okO=true∧Den (fun id=>Own m' ro id∨id<H.n) m' H' r v∧(∀ id,Own m' ro id→H.n≤id∨Own m ao id)∧Frm (Own m ao) H H'
section
variable {A A':Nat→Prop} {m m':List Value} {H:AH} {E:Env} {C:Ctx} {tb:List (List Int)} {B:AH} {D:Bs} {s:St}
theorem FvC.mono {fv:SV} {args:List SV} {ao:List Obj} {Q Q':SV→List Obj→Prop} (h:FvC C tb fv args ao Q) (hq:∀ r ro,Q r ro→Q' r ro):FvC C tb fv args ao Q':=by
 intro H m vf vs h1 h2 h3 h4
 obtain ⟨k,fs,cs,e,hr⟩:=h H m vf vs h1 h2 h3 h4
 exact ⟨k,fs,cs,e,hr.mono fun v H' ⟨m',r,ro,p,q⟩=>⟨m',r,ro,hq r ro p,q⟩⟩
theorem RdC.sub (hA:∀ id,A' id→A id) {ad:Addr} {vs:List Value} (h:RdC A H ad vs):RdC A' H ad vs:=h.mono (fun id _ h=>hA id h) (Nat.le_refl _) (fun _ _ _=>rfl)
theorem RdS.sub (hA:∀ id,A' id→A id) {w:Value} {vs:List Value} (h:RdS A H w vs):RdS A' H w vs:=h.mono (fun id _ h=>hA id h) (Nat.le_refl _) (fun _ _ _=>rfl)
mutual
theorem Den.sh (hA:∀ id,A' id→A id):∀ (x:SV) (w:Value),Den A m H x w→Den A' (m'++m) H (SX.sh m'.length x) w
 | .v x,w,h=>h
 | .i k x,w,h=>h
 | .n k x,w,h=>h
 | .b x,w,h=>h
 | .kb x,w,h=>h
 | .nil,w,h=>h
 | .u l,w,h=>RdS.sub hA h
 | .bl l,w,h=>RdS.sub hA h
 | .r e cs,w,h=>by
   simp only [Den,SX.sh] at h ⊢
   obtain ⟨a,n,cap,vs,h1,h2,h3,h4,h5⟩:=h
   exact ⟨a,n,cap,vs,h1,by rw [←h2];exact shL_len _ _,h3,DenL.sh hA cs vs h4,fun h=>(h5 h).imp fun ad h=>⟨h.1,h.2.sub hA⟩⟩
 | .p cs,w,h=>by
   simp only [Den,SX.sh] at h ⊢
   obtain ⟨ad,vs,h1,h2,h3⟩:=h
   exact ⟨ad,vs,h1,DenL.sh hA cs vs h2,h3.sub hA⟩
 | .g k,w,h=>h
 | .s i,w,h=>by
   simp only [Den,SX.sh] at h ⊢
   rw [List.getElem?_append_right (Nat.le_add_right _ _),Nat.add_sub_cancel_left];exact h
 | .ss i off len,w,h=>by
   simp only [Den,SX.sh] at h ⊢
   rw [List.getElem?_append_right (Nat.le_add_right _ _),Nat.add_sub_cancel_left];exact h
 | .si i ix,w,h=>by
   simp only [Den,SX.sh] at h ⊢
   rw [List.getElem?_append_right (Nat.le_add_right _ _),Nat.add_sub_cancel_left];exact h
 | .o i off,w,h=>by
   simp only [Den,SX.sh] at h ⊢
   rw [List.getElem?_append_right (Nat.le_add_right _ _),Nat.add_sub_cancel_left];exact h
 | .os i off n e,w,h=>by
   simp only [Den,SX.sh] at h ⊢
   rw [List.getElem?_append_right (Nat.le_add_right _ _),Nat.add_sub_cancel_left];exact h
 | .a l,w,h=>by
   simp only [Den,SX.sh] at h ⊢
   obtain ⟨vs,h1,h2⟩:=h
   exact ⟨vs,h1,DenL.sh hA l vs h2⟩
 | .t l,w,h=>by
   simp only [Den,SX.sh] at h ⊢
   obtain ⟨vs,h1,h2⟩:=h
   exact ⟨vs,h1,DenL.sh hA l vs h2⟩
 | .f k fs cs,w,h=>by
   simp only [Den,SX.sh] at h ⊢
   obtain ⟨vf,vc,h1,h2,h3⟩:=h
   exact ⟨vf,vc,h1,DenL.sh hA fs vf h2,DenL.sh hA cs vc h3⟩
 | .fq k fs cs,w,h=>by
   simp only [Den,SX.sh] at h ⊢
   obtain ⟨vf,vc,h1,h2,h3⟩:=h
   exact ⟨vf,vc,h1,DenL.mono (fun id _ h=>hA id h) (Nat.le_refl _) (fun _ _ _=>rfl) fs vf (fun _ _ _ h=>h) h2,DenL.mono (fun id _ h=>hA id h) (Nat.le_refl _) (fun _ _ _=>rfl) cs vc (fun _ _ _ h=>h) h3⟩
 | .any,w,h=>h
theorem DenL.sh (hA:∀ id,A' id→A id):∀ (xs:List SV) (ws:List Value),DenL A m H xs ws→DenL A' (m'++m) H (shL m'.length xs) ws
 | [],ws,h=>h
 | x::xs,ws,h=>by
   simp only [DenL,shL] at h ⊢
   obtain ⟨w,ws',h1,h2,h3⟩:=h
   exact ⟨w,ws',h1,Den.sh hA x w h2,DenL.sh hA xs ws' h3⟩
theorem shL_len:∀ (n:Nat) (xs:List SV),(shL n xs).length=xs.length
 | n,[]=>rfl
 | n,x::xs=>by simp [shL,shL_len n xs]
end
theorem shOs_get (n:Nat):∀ (os:List Obj) (i:Nat),(shOs n os)[i]?=os[i]?.map (shO n)
 | [],i=>rfl
 | o::os,0=>rfl
 | o::os,i+1=>by simpa [shOs] using shOs_get n os i
theorem shOs_len (n:Nat):∀ (os:List Obj),(shOs n os).length=os.length
 | []=>rfl
 | o::os=>by simp [shOs,shOs_len n os]
theorem shO_dead {n:Nat} {o:Obj}:shO n o=.dead↔o=.dead:=by cases o<;>simp [shO]
theorem pos_ok {i:Nat}:∀ {is:List Nat} {p q:Nat},pos i is p=some q→p≤q∧is[q-p]?=some i
 | [],p,q,h=>by cases h
 | j::js,p,q,h=>by
   simp only [pos,cond_eq_ite] at h
   split at h
   ·rename_i hb
    obtain rfl:=Option.some.inj h
    have:=Nat.eq_of_beq_eq_true hb
    subst this
    simp
   ·obtain ⟨h1,h2⟩:=pos_ok h
    refine ⟨by omega,?_⟩
    rw [show q-p=(q-(p+1))+1 by omega]
    simpa using h2
theorem pos_none {i:Nat}:∀ {is:List Nat} {p:Nat},pos i is p=none→i∉is
 | [],p,h=>by simp
 | j::js,p,h=>by
   simp only [pos,cond_eq_ite] at h
   split at h
   ·cases h
   ·rename_i hb
    have:=pos_none h
    simp only [List.mem_cons,not_or]
    exact ⟨fun e=>hb (by rw [e];exact Nat.beq_refl _),this⟩
theorem mapO_len {f:SV→Option SV}:∀ {xs ys:List SV},mapO f xs=some ys→ys.length=xs.length
 | [],ys,h=>by obtain rfl:=Option.some.inj h;rfl
 | x::xs,ys,h=>by
   simp only [mapO] at h
   split at h
   ·rename_i y ys' h1 h2
    obtain rfl:=Option.some.inj h
    simp [mapO_len h2]
   ·cases h
def mOf (m:List Value) (ci:List Nat):List Value:=ci.map fun i=>m[i]?.getD undefA
theorem getO_ok:∀ {ci:List Nat} {ao:List Obj},getO s ci=some ao→ao.length=ci.length∧(∀ p i:Nat,ci[p]?=some i→ownSl (objAt s i)=true∧ao[p]?=some (plainO (objAt s i)))∧ci.Nodup
 | [],ao,h=>by obtain rfl:=Option.some.inj h;exact ⟨rfl,fun p i h=>by simp at h,List.nodup_nil⟩
 | j::js,ao,h=>by
   simp only [getO,cond_eq_ite] at h
   split at h
   ·rename_i hb
    simp only [Bool.and_eq_true,Option.isNone_iff_eq_none] at hb
    split at h
    ·rename_i os ho
     obtain rfl:=Option.some.inj h
     obtain ⟨h1,h2,h3⟩:=getO_ok ho
     refine ⟨by simp [h1],fun p i hp=>?_,List.nodup_cons.2 ⟨pos_none hb.2,h3⟩⟩
     cases p with
     | zero=>simp at hp;subst hp;exact ⟨hb.1,rfl⟩
     | succ p=>simpa using h2 p i (by simpa using hp)
    ·cases h
   ·cases h
theorem objAt_get {i:Nat} {o:Obj} (h:objAt s i=o) (hd:o≠.dead):s.objs[i]?=some o:=by
 unfold objAt at h
 split at h
 ·rename_i o' ho;rw [ho,h]
 ·exact absurd h.symm hd
theorem mOf_get {ci:List Nat} {p i:Nat} (hp:ci[p]?=some i) {v:Value} (hv:m[i]?=some v):(mOf m ci)[p]?=some v:=by
 simp [mOf,hp,hv]
theorem consumed (ho:Obs m s.objs H) {ci:List Nat} {ao:List Obj} (h:getO s ci=some ao):Obs (mOf m ci) ao H∧∀ id,Own (mOf m ci) ao id→∃ i o v,i∈ci∧s.objs[i]?=some o∧o≠.dead∧m[i]?=some v∧blkOf v=some id:=by
 obtain ⟨h1,h2,h3⟩:=getO_ok h
 have get:∀ {p:Nat} {o:Obj} {v:Value},ao[p]?=some o→(mOf m ci)[p]?=some v→∃ i,ci[p]?=some i∧o=plainO (objAt s i)∧s.objs[i]?=some (objAt s i)∧m[i]?=some v∧ownSl (objAt s i)=true:=by
  intro p o v hp hv
  have hlt:p<ci.length:=by rw [←h1];exact (List.getElem?_eq_some_iff.1 hp).1
  have hci:=List.getElem?_eq_getElem hlt
  obtain ⟨k1,k2⟩:=h2 p _ hci
  rw [k2] at hp
  have hget:=objAt_get (s:=s) (i:=ci[p]) rfl (fun e=>by rw [e] at k1;cases k1)
  have hm:ci[p]<m.length:=by rw [ho.len];exact (List.getElem?_eq_some_iff.1 hget).1
  refine ⟨ci[p],hci,(Option.some.inj hp).symm,hget,?_,k1⟩
  have:(mOf m ci)[p]?=some m[ci[p]]:=mOf_get hci (List.getElem?_eq_getElem hm)
  rw [this] at hv
  rw [List.getElem?_eq_getElem hm];exact hv
 refine ⟨⟨by simp [mOf,h1],?_,?_⟩,?_⟩
 ·intro p o v hp hv
  obtain ⟨i,k1,rfl,k2,k3,k4⟩:=get hp hv
  have ok:=ho.ok i _ v k2 k3
  revert ok k4
  cases objAt s i with
  | dead=>intro k4 _;cases k4
  | x cs=>intro k4 _;cases k4
  | u l=>intro _ ok;exact ok
  | b l=>intro _ ok;exact ok
  | e=>
    rintro _ ⟨id,rfl,q1,q2⟩
    exact .inr ⟨id,0,0,rfl,.inr ⟨rfl,rfl⟩,q1,q2⟩
 ·intro p q o o' v v' id hp _ hq _ hv hv' hb hb'
  obtain ⟨i,k1,_,k2,k3,k4⟩:=get hp hv
  obtain ⟨j,l1,_,l2,l3,l4⟩:=get hq hv'
  have nd:∀ {o:Obj},ownSl o=true→o≠.dead:=fun h e=>by subst e;cases h
  have:=ho.dis i j _ _ v v' id k2 (nd k4) l2 (nd l4) k3 l3 hb hb'
  subst this
  have e1:=(List.getElem?_eq_some_iff.1 k1)
  have e2:=(List.getElem?_eq_some_iff.1 l1)
  have hpw:=List.pairwise_iff_getElem.1 h3
  rcases Nat.lt_trichotomy p q with hlt | heq | hgt
  ·exact absurd (e1.2.trans e2.2.symm) (hpw p q e1.1 e2.1 hlt)
  ·exact heq
  ·exact absurd (e2.2.trans e1.2.symm) (hpw q p e2.1 e1.1 hgt)
 ·rintro id ⟨p,o,v,hp,_,hv,hb⟩
  obtain ⟨i,k1,_,k2,k3,k4⟩:=get hp hv
  exact ⟨i,_,v,List.mem_of_getElem? k1,k2,(fun e=>by rw [e] at k4;cases k4),k3,hb⟩
theorem not_consumed (ho:Obs m s.objs H) {ci:List Nat} {ao:List Obj} (h:getO s ci=some ao) {i id:Nat} {o:Obj} {v:Value} (hi:i∉ci) (h1:s.objs[i]?=some o) (h2:o≠.dead) (h3:m[i]?=some v) (h4:blkOf v=some id):¬ Own (mOf m ci) ao id:=by
 intro hown
 obtain ⟨j,o',v',k1,k2,k3,k4,k5⟩:=(consumed ho h).2 id hown
 have:=ho.dis i j o o' v v' id h1 h2 k2 k3 h3 k4 h4 k5
 subst this
 exact hi k1
theorem OwS.rdS {w:Value} {cs:List Value} (h:OwS H w cs) (hA:∀ id,blkOf w=some id→¬ A id):RdS A H w cs:=by
 rcases h with ⟨rfl,rfl⟩ | ⟨id,c,kd,rfl,hk,h1,h2⟩
 ·exact ⟨none,0,rfl,.inr (Nat.le_refl _),fun h=>absurd rfl h⟩
 ·exact ⟨_,c,rfl,by rcases hk with ⟨rfl,_⟩ | ⟨rfl,_⟩;exact .inl rfl;exact .inr (Nat.le_refl _),fun _=>⟨_,rfl,_,h1,hA id rfl,h2,fun i v hv=>by rw [Nat.zero_add];exact hv⟩⟩
theorem mapO_den {f:SV→Option SV} (hf:∀ x y w,f x=some y→Den A m H x w→Den A' m' H y w):∀ {xs ys:List SV} {ws:List Value},mapO f xs=some ys→DenL A m H xs ws→DenL A' m' H ys ws
 | [],ys,ws,h,hd=>by obtain rfl:=Option.some.inj h;exact hd
 | x::xs,ys,ws,h,hd=>by
   simp only [mapO] at h
   split at h
   ·rename_i y ys' h1 h2
    obtain rfl:=Option.some.inj h
    simp only [DenL] at hd ⊢
    obtain ⟨w,ws',rfl,h3,h4⟩:=hd
    exact ⟨w,ws',rfl,hf x y w h1 h3,mapO_den hf h2 h4⟩
   ·cases h
theorem rd_ok (ho:Obs m s.objs H) {ci:List Nat} {ao:List Obj} (hci:getO s ci=some ao) (nb:Bool):∀ (n:Nat) (x y:SV) (w:Value),rd (std C tb B D) s ci nb n x=some y→Den (Own m s.objs) m H x w→Den (Own (mOf m ci) ao) (mOf m ci) H y w
 | 0,x,y,w,h,hd=>by cases h
 | n+1,x,y,w,h,hd=>by
   have hA:∀ id,Own (mOf m ci) ao id→Own m s.objs id:=fun id hid=>by
    obtain ⟨i,o,v,_,k1,k2,k3,k4⟩:=(consumed ho hci).2 id hid
    exact ⟨i,o,v,k1,k2,k3,k4⟩
   have ih:∀ {xs ys:List SV} {ws:List Value},mapO (rd (std C tb B D) s ci nb n) xs=some ys→DenL (Own m s.objs) m H xs ws→DenL (Own (mOf m ci) ao) (mOf m ci) H ys ws:=fun h1 h2=>mapO_den (fun x y w=>rd_ok ho hci nb n x y w) h1 h2
   simp only [rd] at h
   split at h
   ·rename_i i
    split at h
    ·rename_i p hp
     obtain rfl:=Option.some.inj h
     obtain ⟨_,q1⟩:=pos_ok hp
     simp only [Den] at hd ⊢
     exact ⟨mOf_get (by simpa using q1) hd.1,hd.2⟩
    ·rename_i hp
     have hni:=pos_none hp
     split at h
     ·rename_i l hob
      obtain rfl:=Option.some.inj h
      obtain ⟨k1,k2,k3⟩:=own_at ho hd hob (by simp)
      exact OwS.rdS (show OwS H w (intV l) from k3) fun id e=>not_consumed ho hci hni k2 (by simp) k1 e
     ·rename_i l hob
      obtain rfl:=Option.some.inj h
      obtain ⟨k1,k2,k3⟩:=own_at ho hd hob (by simp)
      exact OwS.rdS (show OwS H w (boolV l) from k3) fun id e=>not_consumed ho hci hni k2 (by simp) k1 e
     ·rename_i hob
      obtain rfl:=Option.some.inj h
      obtain ⟨k1,k2,id,rfl,k4⟩:=own_at ho hd hob (by simp)
      exact ⟨_,_,rfl,.inr (Nat.le_refl _),fun h=>absurd rfl h⟩
     ·cases h
   ·rename_i i off len
    split at h
    ·cases h
    ·rename_i hp
     have hni:=pos_none hp
     split at h
     ·rename_i l hob
      obtain rfl:=Option.some.inj h
      simp only [Den] at hd
      obtain ⟨a,n',c,a',c',q1,rfl,q2,q3,q4,q6,q5⟩:=hd
      obtain ⟨k1,k2⟩:=obj_at ho q1 hob (by simp)
      have k2:OwS H (.slice a n' c) (intV l):=k2
      obtain ⟨a2,c2,e,_,k3⟩:=k2.shape
      rw [len_int] at e
      simp only [Value.slice.injEq] at e
      obtain ⟨rfl,rfl,rfl⟩:=e
      have hlen:(intV ((l.drop off.toNat).take len.toNat)).length=len.toNat:=by rw [len_int,List.length_take,List.length_drop];omega
      show RdS _ H _ (intV ((l.drop off.toNat).take len.toNat))
      refine ⟨a',c',by rw [hlen],by rw [hlen];exact q6,fun hne=>?_⟩
      have hl0:len≠0:=fun e=>hne (by subst e;simp [intV])
      obtain ⟨id,rfl,rfl⟩:=q5 hl0
      obtain ⟨id',e,g1,kd,_,k4⟩:=k3 (fun e=>by
       have:=congrArg List.length e
       rw [len_int] at this
       simp at this;subst this;simp at q4;omega)
      simp only [Option.some.injEq,Addr.mk.injEq] at e
      obtain ⟨rfl,_⟩:=e
      refine ⟨_,rfl,_,g1,not_consumed ho hci hni k1 (by simp) q1 rfl,k4,fun i v hv=>?_⟩
      unfold intV at hv ⊢
      rw [List.getElem?_map,List.getElem?_take] at hv
      split at hv
      ·rw [List.getElem?_drop] at hv
       rw [List.getElem?_map];exact hv
      ·cases hv
     ·cases h
   ·rename_i i off
    split at h
    ·cases h
    ·rename_i hp
     have hni:=pos_none hp
     split at h
     ·rename_i cs hob
      split at h
      ·rename_i cs' hcs
       obtain rfl:=Option.some.inj h
       simp only [Den] at hd
       obtain ⟨id,q1,rfl⟩:=hd
       obtain ⟨k1,id',vs,e,q3,q4,q5⟩:=obj_at ho q1 hob (by simp)
       simp only [Value.pointer.injEq,Option.some.injEq,Addr.mk.injEq] at e
       obtain ⟨rfl,_⟩:=e
       simp only [Den]
       refine ⟨_,_,rfl,ih hcs (q5.drop off),_,q3,not_consumed ho hci hni k1 (by simp) q1 rfl,q4,fun i v hv=>?_⟩
       rw [List.getElem?_drop] at hv
       exact hv
      ·cases h
     ·cases h
   ·rename_i i off c e
    split at h
    ·cases h
    ·rename_i hp
     have hni:=pos_none hp
     split at h
     ·rename_i cs hob
      rw [cond_eq_ite] at h
      split at h
      ·rename_i hb
       split at h
       ·rename_i cs' hcs
        obtain rfl:=Option.some.inj h
        simp only [Den] at hd
        obtain ⟨id,cap,q1,rfl,q2⟩:=hd
        obtain ⟨k1,id',vs,e',q3,q4,q5⟩:=obj_at ho q1 hob (by simp)
        simp only [Value.pointer.injEq,Option.some.injEq,Addr.mk.injEq] at e'
        obtain ⟨rfl,_⟩:=e'
        simp only [Den]
        refine ⟨_,_,_,_,rfl,by rw [mapO_len hcs];exact Nat.eq_of_beq_eq_true hb,q2,ih hcs ((q5.drop off).take (c*e)),fun _=>⟨_,rfl,_,q3,not_consumed ho hci hni k1 (by simp) q1 rfl,q4,fun i v hv=>?_⟩⟩
        rw [List.getElem?_take] at hv
        split at hv
        ·rw [List.getElem?_drop] at hv;exact hv
        ·cases hv
       ·cases h
      ·cases h
     ·cases h
   ·split at h
    ·rename_i cs' hcs
     obtain rfl:=Option.some.inj h
     simp only [Den] at hd ⊢
     obtain ⟨a,n',cap,vs,rfl,h2,h3,h4,h5⟩:=hd
     exact ⟨a,n',cap,vs,rfl,by rw [mapO_len hcs];exact h2,h3,ih hcs h4,fun h=>(h5 h).imp fun ad h=>⟨h.1,h.2.sub hA⟩⟩
    ·cases h
   ·split at h
    ·rename_i cs' hcs
     obtain rfl:=Option.some.inj h
     simp only [Den] at hd ⊢
     obtain ⟨ad,vs,rfl,h2,h3⟩:=hd
     exact ⟨ad,vs,rfl,ih hcs h2,h3.sub hA⟩
    ·cases h
   ·split at h
    ·rename_i cs' hcs
     obtain rfl:=Option.some.inj h
     simp only [Den] at hd ⊢
     obtain ⟨vs,rfl,h2⟩:=hd
     exact ⟨vs,rfl,ih hcs h2⟩
    ·cases h
   ·split at h
    ·rename_i cs' hcs
     obtain rfl:=Option.some.inj h
     simp only [Den] at hd ⊢
     obtain ⟨vs,rfl,h2⟩:=hd
     exact ⟨vs,rfl,ih hcs h2⟩
    ·cases h
   ·split at h
    ·rename_i fs' cs' hfs hcs
     rw [cond_eq_ite] at h
     split at h
     ·cases h
     ·rename_i ht
      obtain rfl:=Option.some.inj h
      simp only [Bool.or_eq_true,not_or,Bool.not_eq_true] at ht
      simp only [Den] at hd ⊢
      obtain ⟨vf,vc,h1,h2,h3⟩:=hd
      exact ⟨vf,vc,h1,DenL.mono (fun _ _ h=>h) (Nat.le_refl _) (fun _ _ _=>rfl) _ vf (fun j _ hj=>by rw [tokL_men _ ht.1] at hj;cases hj) (ih hfs h2),DenL.mono (fun _ _ h=>h) (Nat.le_refl _) (fun _ _ _=>rfl) _ vc (fun j _ hj=>by rw [tokL_men _ ht.2] at hj;cases hj) (ih hcs h3)⟩
    ·cases h
   ·cases h
   ·cases h
   ·obtain rfl:=Option.some.inj h;exact hd
   ·obtain rfl:=Option.some.inj h;exact hd
   ·obtain rfl:=Option.some.inj h
    obtain rfl:=(show w=_ from hd)
    cases nb with
    | true=>exact ⟨none,0,rfl,.inr (Nat.le_refl _),fun h=>absurd rfl h⟩
    | false=>exact ⟨none,0,rfl,.inr (Nat.le_refl _),fun h=>absurd rfl h⟩
   ·obtain rfl:=Option.some.inj h
    cases x<;>first
     | exact hd
     | exact RdS.sub hA hd
     | (simp only [Den] at hd ⊢
        obtain ⟨vf,vc,h1,h2,h3⟩:=hd
        exact ⟨vf,vc,h1,DenL.mono (fun id _ h=>hA id h) (Nat.le_refl _) (fun _ _ _=>rfl) _ vf (fun _ _ _ h=>h) h2,DenL.mono (fun id _ h=>hA id h) (Nat.le_refl _) (fun _ _ _=>rfl) _ vc (fun _ _ _ h=>h) h3⟩)
     | (exfalso;rename_i hx;exact hx _ _ _ _ rfl)
     | (exfalso;simp_all;first | done | (rename_i hx;exact hx _ _ _ _ rfl rfl rfl rfl))
theorem closed_ok {H':AH} {n:Nat}:∀ {x:SV} {w:Value},closedV x=true→Den A m H x w→Den A' m' H' (SX.sh n x) w
 | .i _ _,w,_,h=>h
 | .n _ _,w,_,h=>h
 | .b _,w,_,h=>h
 | .kb _,w,_,h=>h
 | .nil,w,_,h=>h
 | .v _,w,_,h=>h
 | .f k fs cs,w,hc,h=>by
   simp only [closedV,Bool.and_eq_true,List.isEmpty_iff] at hc
   obtain ⟨rfl,rfl⟩:=hc
   exact h
 | .fq k fs cs,w,hc,h=>by
   simp only [closedV,Bool.and_eq_true,List.isEmpty_iff] at hc
   obtain ⟨rfl,rfl⟩:=hc
   exact h
theorem closedL_ok {H':AH} {n:Nat}:∀ {xs:List SV} {ws:List Value},xs.all closedV=true→DenL A m H xs ws→DenL A' m' H' (shL n xs) ws
 | [],ws,_,h=>h
 | x::xs,ws,hc,h=>by
   simp only [List.all_cons,Bool.and_eq_true] at hc
   simp only [DenL,shL] at h ⊢
   obtain ⟨w,ws',rfl,h2,h3⟩:=h
   exact ⟨w,ws',rfl,closed_ok hc.1 h2,closedL_ok hc.2 h3⟩
theorem killO_get:∀ (ci:List Nat) (os:List Obj) (i:Nat) (o:Obj),(killO ci os)[i]?=some o→o≠.dead→os[i]?=some o∧i∉ci
 | [],os,i,o,h,hd=>⟨h,by simp⟩
 | j::js,os,i,o,h,hd=>by
   obtain ⟨h1,h2⟩:=killO_get js _ i o h hd
   by_cases e:i=j
   ·subst e
    by_cases hl:i<os.length
    ·rw [List.getElem?_set_self hl] at h1
     exact absurd (Option.some.inj h1).symm hd
    ·rw [List.getElem?_eq_none (by simp;omega)] at h1;cases h1
   ·rw [List.getElem?_set_ne (Ne.symm e)] at h1
    exact ⟨h1,by simp [e,h2]⟩
theorem killO_ne:∀ (ci:List Nat) (os:List Obj) (i:Nat),i∉ci→(killO ci os)[i]?=os[i]?
 | [],os,i,_=>rfl
 | j::js,os,i,h=>by
   simp only [List.mem_cons,not_or] at h
   rw [killO,killO_ne js _ i h.2,List.getElem?_set_ne (Ne.symm h.1)]
theorem killO_len:∀ (ci:List Nat) (os:List Obj),(killO ci os).length=os.length
 | [],os=>rfl
 | j::js,os=>by rw [killO,killO_len js];simp
def cvt (G:Sg) (s:St) (ci:List Nat) (nb:Bool) (f:SV) (vs:List SV) (f':SV) (vs':List SV) (ao:List Obj):Prop:=getO s ci=some ao∧rd G s ci nb 9 f=some f'∧mapO (rd G s ci nb 9) vs=some vs'
theorem cl_ok {f f':SV} {vs vs':List SV} {ao:List Obj} {Q:SV→List Obj→Prop} {K:SV→St→Bool→Prop} (ci:List Nat) (nb:Bool) (h:FvC C tb f' vs' ao Q) (hc:cvt (std C tb B D) s ci nb f vs f' vs' ao)
  (hk:∀ r ro,Q r ro→K (sh s.objs.length r) (s.after ci ro) (!ci.isEmpty)):(std C tb B D).cl f vs s K:=by
 intro m E H vf vvs hs hf hv
 obtain ⟨hci,hf',hv'⟩:=hc
 have ho:=hs.obs
 obtain ⟨c1,c2⟩:=consumed ho hci
 have c1':Obs (mOf m ci) ao { H with wl:=H.n }:=⟨c1.len,fun i o v h1 h2=>ObjOk.same (H:=H) (H':={ H with wl:=H.n }) (fun _ _ h=>h) (Nat.le_refl _) (fun _ _ _=>rfl) (fun _ _=>rfl) (fun _ _ _ h=>h) (c1.ok i o v h1 h2),c1.dis⟩
 have d1:=rd_ok ho hci nb 9 f f' vf hf' hf
 have d2:=mapO_den (fun x y w=>rd_ok ho hci nb 9 x y w) hv' hv
 have wlL:∀ {A m xs ws},DenL A m H xs ws→DenL A m { H with wl:=H.n } xs ws:=fun h=>DenL.mono (H:=H) (H':={ H with wl:=H.n }) (fun _ _ h=>h) (Nat.le_refl _) (fun _ _ _=>rfl) _ _ (fun _ _ _ h=>h) h
 obtain ⟨k,fs,cs,rfl,hr⟩:=h { H with wl:=H.n } (mOf m ci) vf vvs c1' hs.gl d1.wl (wlL d2)
 refine ⟨k,fs,cs,rfl,hr.mono ?_⟩
 rintro v H1 ⟨m1,r,ro,q1,q2,q6,q3,q4,q5⟩
 have hown0:∀ id,Own (mOf m ci) ao id→Own m s.objs id:=fun id hid=>by
  obtain ⟨i,o,v,_,k1,k2,k3,k4⟩:=c2 id hid
  exact ⟨i,o,v,k1,k2,k3,k4⟩
 have hn:H.n≤H1.n:=q5.n
 have hml:m.length=s.objs.length:=ho.len
 have split:∀ {i:Nat} {o:Obj} {v:Value},(s.after ci ro).objs[i]?=some o→o≠.dead→(m++m1)[i]?=some v →
   (s.objs[i]?=some o∧i∉ci∧m[i]?=some v∧i<s.objs.length)∨(∃ o',ro[i-s.objs.length]?=some o'∧o=shO s.objs.length o'∧m1[i-s.objs.length]?=some v∧s.objs.length≤i):=by
  intro i o v h1 hd h2
  simp only [St.after] at h1
  by_cases hi:i<s.objs.length
  ·rw [List.getElem?_append_left (by rw [killO_len];exact hi)] at h1
   rw [List.getElem?_append_left (by rw [hml];exact hi)] at h2
   obtain ⟨h3,h4⟩:=killO_get ci _ i o h1 hd
   exact .inl ⟨h3,h4,h2,hi⟩
  ·rw [List.getElem?_append_right (by rw [killO_len];omega),killO_len,shOs_get] at h1
   rw [List.getElem?_append_right (by rw [hml];omega),hml] at h2
   cases h3:ro[i-s.objs.length]? with
   | none=>simp [h3] at h1
   | some o'=>
     simp only [h3,Option.map_some,Option.some.injEq] at h1
     exact .inr ⟨o',rfl,h1.symm,h2,by omega⟩
 have hA':∀ id,Own (m++m1) (s.after ci ro).objs id→(id<H.n∧∃ i o v,i∉ci∧s.objs[i]?=some o∧o≠.dead∧m[i]?=some v∧blkOf v=some id)∨Own m1 ro id:=by
  rintro id ⟨i,o,v,h1,h2,h3,h4⟩
  rcases split h1 h2 h3 with ⟨k1,k2,k3,k4⟩ | ⟨o',k1,rfl,k3,k4⟩
  ·exact .inl ⟨((ho.ok i o v k1 k3).blk h2 h4).1,i,o,v,k2,k1,h2,k3,h4⟩
  ·exact .inr ⟨_,o',v,k1,fun e=>h2 (shO_dead.2 e),k3,h4⟩
 have hA:∀ id,id<H.n→Own (m++m1) (s.after ci ro).objs id→Own m s.objs id:=by
  intro id hid h
  rcases hA' id h with ⟨_,i,o,v,_,k1,k2,k3,k4⟩ | h
  ·exact ⟨i,o,v,k1,k2,k3,k4⟩
  ·rcases q4 id h with h | h
   ·have:H.n≤id:=h
    omega
   ·exact hown0 id h
 have hg:∀ id,id<H.n→¬ Own m s.objs id→H1.t.get id=H.t.get id:=fun id hid h=>q5.get id hid fun h'=>h (hown0 id h')
 have hpre:∀ (j:Nat) (v':Value),m[j]?=some v'→(m++m1)[j]?=some v':=fun j v' hj=>by
  rw [List.getElem?_append_left (List.getElem?_eq_some_iff.1 hj).1];exact hj
 have hden:∀ x w,Den (Own m s.objs) m H x w→Den (Own (m++m1) (s.after ci ro).objs) (m++m1) H1 x w:=fun x w h=>Den.mono hA hn hg x w (fun j v' _ hj=>hpre j v' hj) h
 have hsub:∀ id,Own (m++m1) (s.after ci ro).objs id→Own m1 ro id∨id<H.n:=fun id h=>by
  rcases hA' id h with ⟨h,_⟩ | h
  ·exact .inr h
  ·exact .inl h
 have hres:Den (Own (m++m1) (s.after ci ro).objs) (m++m1) H1 (sh s.objs.length r) v:=by
  have:=Den.sh (m':=m) hsub r v q3
  rwa [hml] at this
 have hobs:Obs (m++m1) (s.after ci ro).objs H1:=by
  refine ⟨by simp [St.after,killO_len,shOs_len,hml,q2.len],?_,?_⟩
  ·intro i o v h1 h2
   by_cases hd:o=.dead
   ·subst hd;exact trivial
   rcases split h1 hd h2 with ⟨k1,k2,k3,k4⟩ | ⟨o',k1,rfl,k3,k4⟩
   ·refine (ho.ok i o v k1 k3).same hA hn hg (fun id e=>?_) (fun j v' _ hj=>hpre j v' hj)
    exact q5.get id ((ho.ok i o v k1 k3).blk hd e).1 (not_consumed ho hci k2 k1 hd k3 e)
   ·have ok:=q2.ok _ o' v k1 k3
    cases o' with
    | x cs=>
      obtain ⟨id,vs,rfl,g1,g2,g3⟩:=ok
      refine ⟨id,vs,rfl,g1,g2,?_⟩
      have hcl:=List.all_eq_true.1 q6 _ (List.mem_of_getElem? k1)
      exact closedL_ok hcl g3
    | _=>exact ok
  ·intro i j o o' v v' id h1 hd h3 hd' h5 h6 h7 h8
   rcases split h1 hd h5 with ⟨k1,k2,k3,k4⟩ | ⟨o1,k1,rfl,k3,k4⟩<;>rcases split h3 hd' h6 with ⟨l1,l2,l3,l4⟩ | ⟨o2,l1,rfl,l3,l4⟩
   ·exact ho.dis i j o o' v v' id k1 hd l1 hd' k3 l3 h7 h8
   ·exfalso
    have a:=((ho.ok i o v k1 k3).blk hd h7).1
    rcases q4 id ⟨_,o2,v',l1,fun e=>hd' (shO_dead.2 e),l3,h8⟩ with h | h
    ·have:H.n≤id:=h
     omega
    ·exact not_consumed ho hci k2 k1 hd k3 h7 h
   ·exfalso
    have a:=((ho.ok j o' v' l1 l3).blk hd' h8).1
    rcases q4 id ⟨_,o1,v,k1,fun e=>hd (shO_dead.2 e),k3,h7⟩ with h | h
    ·have:H.n≤id:=h
     omega
    ·exact not_consumed ho hci l2 l1 hd' l3 h8 h
   ·have:=q2.dis _ _ o1 o2 v v' id k1 (fun e=>hd (shO_dead.2 e)) l1 (fun e=>hd' (shO_dead.2 e)) k3 l3 h7 h8
    omega
 refine ⟨sh s.objs.length r,s.after ci ro,!ci.isEmpty,m++m1,hk r ro q1,?_,hres,?_⟩
 ·refine ⟨⟨hobs.len,fun i o v h1 h2=>ObjOk.same (H:=H1) (H':={ H1 with wl:=min H.wl H1.wl }) (fun _ _ h=>h) (Nat.le_refl _) (fun _ _ _=>rfl) (fun _ _=>rfl) (fun _ _ _ h=>h) (hobs.ok i o v h1 h2),hobs.dis⟩,?_,?_,⟨Nat.le_trans hs.fr.n hn,?_,?_⟩,?_,?_⟩
  ·intro id hid
   by_cases hlt:id<H.n
   ·exact hs.own id (hA id hlt hid)
   ·exact .inl (Nat.le_trans hs.fr.n (by omega))
  ·intro t x hx
   obtain ⟨w,e1,e2⟩:=hs.env t x hx
   exact ⟨w,e1,(hden x w e2).wl⟩
  ·intro id hid hd
   have hlt:=Nat.lt_of_lt_of_le hid hs.fr.n
   have:¬ Own m s.objs id:=fun h=>by
    rcases hs.own id h with h | h
    ·omega
    ·exact hd h
   show H1.t.get id=_
   rw [hg id hlt this]
   exact hs.fr.get id hid hd
  ·intro x h1 h2 h3
   have a:=hs.fr.wl x h1 h2 h3
   have hBn:=hs.fr.n
   have b:=q5.wl x (by show x≤H.n;omega) (by show x≤H.n;omega) fun id hid=>by
    rcases hs.own id (hown0 id hid) with h | h
    ·omega
    ·exact h3 id h
   show x≤min H.wl H1.wl
   omega
  ·intro i v hv
   obtain ⟨k1,cs,k2⟩:=hs.fix i v hv
   refine ⟨hpre i v k1,cs,?_⟩
   have hil:=(List.getElem?_eq_some_iff.1 k2).1
   have hni:i∉ci:=fun hi=>by
    obtain ⟨p,hp⟩:=List.getElem?_of_mem hi
    have:=((getO_ok hci).2.1 p i hp).1
    unfold objAt at this
    rw [k2] at this
    cases this
   show (killO ci s.objs++shOs s.objs.length ro)[i]?=_
   rw [List.getElem?_append_left (by rw [killO_len];exact hil),killO_ne ci _ i hni]
   exact k2
  ·intro k l hk
   obtain ⟨g1,g2⟩:=hs.gl k l hk
   refine ⟨Nat.lt_of_lt_of_le g1 hn,?_⟩
   show H1.t.get k=_
   rw [hg k g1 fun h=>?_]
   ·exact g2
   ·obtain ⟨_,bk,e1,e2⟩:=ho.lt h
    rw [g2] at e1
    obtain rfl:=Option.some.inj e1
    exact e2 rfl
 ·intro hb
  cases ci with
  | cons i is=>rfl
  | nil=>
    exfalso
    have hle:=Nat.le_of_ble_eq_true hb
    have:=q5.wl H.n (Nat.le_refl _) (Nat.le_refl _) fun id hid=>by
     obtain ⟨i,_,_,hi,_⟩:=c2 id hid
     simp at hi
    omega
end
end Go.SX
end
section
set_option linter.unusedVariables false
set_option linter.unusedSimpArgs false
set_option linter.unusedSectionVars false
namespace Go.SX
open Go.AL
def envS:List SV→Nat→T SV
 | [],_=>.nil
 | v::vs,k=>(envS vs (k+1)).set k v
def resS (s:St):List IRes→Option (List SV)
 | []=>some []
 | .tmp t::rs=>(match s.env.get t,resS s rs with
   | some x,some xs=>some (x::xs)
   | _,_=>none)
 | .cell t agg::rs=>(match s.env.get t with
   | some (.o i off)=>(match objAt s i with
     | .x cs=>(match sPart agg cs off,resS s rs with
       | some x,some xs=>some (x::xs)
       | _,_=>none)
     | _=>none)
   | _=>none)
def tupS:List SV→SV
 | [x]=>x
 | xs=>.t xs
def goodX (s:St) (i:Nat):Bool:=match objAt s i with
 | .x cs=>cs.all closedV
 | _=>false
def exA (i:Nat) (acc:List Nat) (f:Nat→SV):SV×List Nat:=match pos i acc 0 with
 | some p=>(f p,acc)
 | none=>(f acc.length,acc++[i])
mutual
def ex (s:St):SV→List Nat→Option (SV×List Nat)
 | .i k x,acc=>some (.i k x,acc)
 | .n k x,acc=>some (.i k (.ofNat x),acc)
 | .b x,acc=>some (.b x,acc)
 | .kb x,acc=>some (.b x,acc)
 | .nil,acc=>some (.nil,acc)
 | .v x,acc=>some (.v x,acc)
 | .s i,acc=>bif ownSl (objAt s i) then some (exA i acc .s) else none
 | .o i off,acc=>bif goodX s i then some (exA i acc fun p=>.o p off) else none
 | .os i off n e,acc=>bif goodX s i then some (exA i acc fun p=>.os p off n e) else none
 | .a l,acc=>(match exL s l acc with
   | some (l,acc)=>some (.a l,acc)
   | none=>none)
 | .t l,acc=>(match exL s l acc with
   | some (l,acc)=>some (.t l,acc)
   | none=>none)
 | .f k fs cs,acc=>(match exL s fs acc with
   | some (fs,acc)=>(match exL s cs acc with
     | some (cs,acc)=>some (.f k fs cs,acc)
     | none=>none)
   | none=>none)
 | _,_=>none
def exL (s:St):List SV→List Nat→Option (List SV×List Nat)
 | [],acc=>some ([],acc)
 | x::xs,acc=>(match ex s x acc with
   | some (x,acc)=>(match exL s xs acc with
     | some (xs,acc)=>some (x::xs,acc)
     | none=>none)
   | none=>none)
end
def outO (s:St):List Nat→List Obj
 | []=>[]
 | i::is=>plainO (objAt s i)::outO s is
def onP:Option (SV×List Nat)→(SV→List Nat→Prop)→Prop
 | some (x,acc),K=>K x acc
 | none,_=>False
def ap2 (q:SV→List Obj→Prop) (x:SV) (os:List Obj):Prop:=q x os
def post (res:List IRes) (q:SV→List Obj→Prop) (c:Ctl) (s:St):Prop:=match c with
 | .exit _=>False
 | .normal=>on (resS s res) fun xs=>onP (ex s (tupS xs) []) fun x acc=>ap2 q x (outO s acc)
 | .ret=>on (resS s res) fun xs=>onP (ex s (tupS xs) []) fun x acc=>ap2 q x (outO s acc)
section
variable {A A':Nat→Prop} {m m':List Value} {H:AH} {E:Env} {C:Ctx} {tb:List (List Int)} {B:AH} {D:Bs} {s:St}
theorem onP_elim {o:Option (SV×List Nat)} {K:SV→List Nat→Prop} (h:onP o K):∃ x acc,o=some (x,acc)∧K x acc:=by
 cases o with
 | none=>exact h.elim
 | some p=>exact ⟨p.1,p.2,rfl,h⟩
theorem envS_ok:∀ {xs:List SV} {ws:List Value} (k t:Nat) (x:SV),DenL A m H xs ws→(envS xs k).get t=some x→∃ w,(envOf ws k).get t=some w∧Den A m H x w
 | [],ws,k,t,x,h,hx=>by cases hx
 | y::xs,ws,k,t,x,h,hx=>by
   simp only [DenL] at h
   obtain ⟨w,ws',rfl,h2,h3⟩:=h
   simp only [envS,envOf] at hx ⊢
   rw [T.get_set] at hx ⊢
   split at hx
   ·rename_i e
    rw [if_pos e]
    obtain rfl:=Option.some.inj hx
    exact ⟨w,rfl,h2⟩
   ·rename_i e
    rw [if_neg e]
    exact envS_ok _ t x h3 hx
theorem resS_ok (hs:Sat tb B D m s E H):∀ {res:List IRes} {xs:List SV},resS s res=some xs→∃ ws,resOf E H res=some ws∧DenL (Own m s.objs) m H xs ws
 | [],xs,h=>by obtain rfl:=Option.some.inj h;exact ⟨[],rfl,rfl⟩
 | .tmp t::rs,xs,h=>by
   simp only [resS] at h
   split at h
   ·rename_i x xs' h1 h2
    obtain rfl:=Option.some.inj h
    obtain ⟨w,e1,e2⟩:=hs.env t x h1
    obtain ⟨ws,e3,e4⟩:=resS_ok hs h2
    exact ⟨w::ws,by simp only [resOf,e1,e3],w,ws,rfl,e2,e4⟩
   ·cases h
 | .cell t agg::rs,xs,h=>by
   simp only [resS] at h
   split at h
   ·rename_i i off h1
    split at h
    ·rename_i cs hob
     split at h
     ·rename_i x xs' h2 h3
      obtain rfl:=Option.some.inj h
      obtain ⟨w,e1,e2⟩:=hs.env t _ h1
      simp only [Den] at e2
      obtain ⟨id,q1,rfl⟩:=e2
      obtain ⟨k1,id',vs,e,q3,q4,q5⟩:=obj_at hs.obs q1 hob (by simp)
      simp only [Value.pointer.injEq,Option.some.injEq,Addr.mk.injEq] at e
      obtain ⟨rfl,_⟩:=e
      obtain ⟨u,p1,p2⟩:=sPart_ok h2 q5
      obtain ⟨ws,e3,e4⟩:=resS_ok hs h3
      exact ⟨u::ws,by simp only [resOf,e1,q4,p1,e3],u,ws,rfl,p2,e4⟩
     ·cases h
    ·cases h
   ·cases h
theorem tupS_ok {xs:List SV} {ws:List Value} (h:DenL A m H xs ws):Den A m H (tupS xs) (tupled ws):=by
 match xs,h with
 | [],h=>simp only [DenL] at h;subst h;exact ⟨[],rfl,rfl⟩
 | [x],h=>
   simp only [DenL] at h
   obtain ⟨w,ws',rfl,h2,rfl⟩:=h
   exact h2
 | x::y::xs,h=>
   have h':=h
   simp only [DenL] at h'
   obtain ⟨w,ws',rfl,h2,w',ws'',rfl,h3⟩:=h'
   exact ⟨_,rfl,h⟩
def AccOk (s:St) (acc:List Nat):Prop:=acc.Nodup∧∀ i,i∈acc→ownSl (objAt s i)=true∨goodX s i=true
theorem exA_ok {i:Nat} {acc acc':List Nat} {f:Nat→SV} {y:SV} (h:exA i acc f=(y,acc')) (hi:ownSl (objAt s i)=true∨goodX s i=true) (ha:AccOk s acc):AccOk s acc'∧(∃ e,acc'=acc++e)∧∃ p,y=f p∧acc'[p]?=some i:=by
 unfold exA at h
 split at h
 ·rename_i p hp
  cases h
  obtain ⟨_,h2⟩:=pos_ok hp
  exact ⟨ha,⟨[],(List.append_nil _).symm⟩,p,rfl,by simpa using h2⟩
 ·rename_i hp
  cases h
  have hni:=pos_none hp
  refine ⟨⟨?_,fun j hj=>?_⟩,⟨[i],rfl⟩,acc.length,rfl,by simp⟩
  ·rw [List.nodup_append]
   exact ⟨ha.1,List.pairwise_singleton _ _,fun a ha' b hb e=>by simp at hb;subst hb;subst e;exact hni ha'⟩
  ·rcases List.mem_append.1 hj with h | h
   ·exact ha.2 j h
   ·simp at h;subst h;exact hi
theorem mOf_app {acc e:List Nat} {p i:Nat} {v:Value} (hp:acc[p]?=some i) (hv:m[i]?=some v):(mOf m (acc++e))[p]?=some v:=by
 refine mOf_get ?_ hv
 rw [List.getElem?_append_left (List.getElem?_eq_some_iff.1 hp).1];exact hp
mutual
theorem ex_ok:∀ (x:SV) (acc acc':List Nat) (y:SV) (w:Value),ex s x acc=some (y,acc')→AccOk s acc→Den A m H x w→AccOk s acc'∧(∃ e,acc'=acc++e)∧∀ e,Den A' (mOf m (acc'++e)) H y w
 | .i k x,acc,acc',y,w,h,ha,hd=>by simp only [ex] at h;cases h;exact ⟨ha,⟨[],(List.append_nil _).symm⟩,fun _=>hd⟩
 | .n k x,acc,acc',y,w,h,ha,hd=>by simp only [ex] at h;cases h;exact ⟨ha,⟨[],(List.append_nil _).symm⟩,fun _=>hd⟩
 | .b x,acc,acc',y,w,h,ha,hd=>by simp only [ex] at h;cases h;exact ⟨ha,⟨[],(List.append_nil _).symm⟩,fun _=>hd⟩
 | .kb x,acc,acc',y,w,h,ha,hd=>by simp only [ex] at h;cases h;exact ⟨ha,⟨[],(List.append_nil _).symm⟩,fun _=>hd⟩
 | .nil,acc,acc',y,w,h,ha,hd=>by simp only [ex] at h;cases h;exact ⟨ha,⟨[],(List.append_nil _).symm⟩,fun _=>hd⟩
 | .v x,acc,acc',y,w,h,ha,hd=>by simp only [ex] at h;cases h;exact ⟨ha,⟨[],(List.append_nil _).symm⟩,fun _=>hd⟩
 | .s i,acc,acc',y,w,h,ha,hd=>by
   simp only [ex,cond_eq_ite] at h
   split at h
   ·rename_i hi
    obtain ⟨h1,h2,p,rfl,h3⟩:=exA_ok (Option.some.inj h) (.inl hi) ha
    refine ⟨h1,h2,fun e=>?_⟩
    simp only [Den] at hd ⊢
    exact ⟨mOf_app h3 hd.1,hd.2⟩
   ·cases h
 | .o i off,acc,acc',y,w,h,ha,hd=>by
   simp only [ex,cond_eq_ite] at h
   split at h
   ·rename_i hi
    obtain ⟨h1,h2,p,rfl,h3⟩:=exA_ok (Option.some.inj h) (.inr hi) ha
    refine ⟨h1,h2,fun e=>?_⟩
    simp only [Den] at hd ⊢
    obtain ⟨id,k1,k2⟩:=hd
    exact ⟨id,mOf_app h3 k1,k2⟩
   ·cases h
 | .os i off n e,acc,acc',y,w,h,ha,hd=>by
   simp only [ex,cond_eq_ite] at h
   split at h
   ·rename_i hi
    obtain ⟨h1,h2,p,rfl,h3⟩:=exA_ok (Option.some.inj h) (.inr hi) ha
    refine ⟨h1,h2,fun e=>?_⟩
    simp only [Den] at hd ⊢
    obtain ⟨id,c,k1,k2⟩:=hd
    exact ⟨id,c,mOf_app h3 k1,k2⟩
   ·cases h
 | .a l,acc,acc',y,w,h,ha,hd=>by
   simp only [ex] at h
   split at h
   ·rename_i l' acc1 h1
    cases h
    simp only [Den] at hd
    obtain ⟨vs,rfl,h2⟩:=hd
    obtain ⟨k1,k2,k3⟩:=exL_ok l acc acc' l' vs h1 ha h2
    exact ⟨k1,k2,fun e=>⟨vs,rfl,k3 e⟩⟩
   ·cases h
 | .t l,acc,acc',y,w,h,ha,hd=>by
   simp only [ex] at h
   split at h
   ·rename_i l' acc1 h1
    cases h
    simp only [Den] at hd
    obtain ⟨vs,rfl,h2⟩:=hd
    obtain ⟨k1,k2,k3⟩:=exL_ok l acc acc' l' vs h1 ha h2
    exact ⟨k1,k2,fun e=>⟨vs,rfl,k3 e⟩⟩
   ·cases h
 | .f k fs cs,acc,acc',y,w,h,ha,hd=>by
   simp only [ex] at h
   split at h
   ·rename_i fs' acc1 h1
    split at h
    ·rename_i cs' acc2 h2
     cases h
     simp only [Den] at hd
     obtain ⟨vf,vc,rfl,h3,h4⟩:=hd
     obtain ⟨k1,⟨e1,k2⟩,k3⟩:=exL_ok fs acc acc1 fs' vf h1 ha h3
     obtain ⟨l1,⟨e2,l2⟩,l3⟩:=exL_ok cs acc1 acc' cs' vc h2 k1 h4
     refine ⟨l1,⟨e1++e2,by rw [l2,k2,List.append_assoc]⟩,fun e=>⟨vf,vc,rfl,?_,l3 e⟩⟩
     rw [l2,List.append_assoc]
     exact k3 _
    ·cases h
   ·cases h
 | .u _,acc,acc',y,w,h,ha,hd=>by cases h
 | .bl _,acc,acc',y,w,h,ha,hd=>by cases h
 | .r _ _,acc,acc',y,w,h,ha,hd=>by cases h
 | .p _,acc,acc',y,w,h,ha,hd=>by cases h
 | .g _,acc,acc',y,w,h,ha,hd=>by cases h
 | .ss _ _ _,acc,acc',y,w,h,ha,hd=>by cases h
 | .si _ _,acc,acc',y,w,h,ha,hd=>by cases h
 | .fq _ _ _,acc,acc',y,w,h,ha,hd=>by cases h
 | .any,acc,acc',y,w,h,ha,hd=>by cases h
theorem exL_ok:∀ (xs:List SV) (acc acc':List Nat) (ys:List SV) (ws:List Value),exL s xs acc=some (ys,acc')→AccOk s acc→DenL A m H xs ws→AccOk s acc'∧(∃ e,acc'=acc++e)∧∀ e,DenL A' (mOf m (acc'++e)) H ys ws
 | [],acc,acc',ys,ws,h,ha,hd=>by simp only [exL] at h;cases h;exact ⟨ha,⟨[],(List.append_nil _).symm⟩,fun _=>hd⟩
 | x::xs,acc,acc',ys,ws,h,ha,hd=>by
   simp only [exL] at h
   split at h
   ·rename_i x' acc1 h1
    split at h
    ·rename_i xs' acc2 h2
     cases h
     simp only [DenL] at hd
     obtain ⟨w,ws',rfl,h3,h4⟩:=hd
     obtain ⟨k1,⟨e1,k2⟩,k3⟩:=ex_ok x acc acc1 x' w h1 ha h3
     obtain ⟨l1,⟨e2,l2⟩,l3⟩:=exL_ok xs acc1 acc' xs' ws' h2 k1 h4
     refine ⟨l1,⟨e1++e2,by rw [l2,k2,List.append_assoc]⟩,fun e=>⟨w,ws',rfl,?_,l3 e⟩⟩
     rw [l2,List.append_assoc]
     exact k3 _
    ·cases h
   ·cases h
end
theorem closed_ok0 {H':AH}:∀ {x:SV} {w:Value},closedV x=true→Den A m H x w→Den A' m' H' x w
 | .i _ _,w,_,h=>h
 | .n _ _,w,_,h=>h
 | .b _,w,_,h=>h
 | .kb _,w,_,h=>h
 | .nil,w,_,h=>h
 | .v _,w,_,h=>h
 | .f k fs cs,w,hc,h=>by
   simp only [closedV,Bool.and_eq_true,List.isEmpty_iff] at hc
   obtain ⟨rfl,rfl⟩:=hc
   exact h
 | .fq k fs cs,w,hc,h=>by
   simp only [closedV,Bool.and_eq_true,List.isEmpty_iff] at hc
   obtain ⟨rfl,rfl⟩:=hc
   exact h
theorem closedL_ok0 {H':AH}:∀ {xs:List SV} {ws:List Value},xs.all closedV=true→DenL A m H xs ws→DenL A' m' H' xs ws
 | [],ws,_,h=>h
 | x::xs,ws,hc,h=>by
   simp only [List.all_cons,Bool.and_eq_true] at hc
   simp only [DenL] at h ⊢
   obtain ⟨w,ws',rfl,h2,h3⟩:=h
   exact ⟨w,ws',rfl,closed_ok0 hc.1 h2,closedL_ok0 hc.2 h3⟩
theorem outO_get:∀ (acc:List Nat) (p:Nat),(outO s acc)[p]?=acc[p]?.map fun i=>plainO (objAt s i)
 | [],p=>rfl
 | i::is,0=>rfl
 | i::is,p+1=>by simpa [outO] using outO_get is p
theorem outO_len:∀ (acc:List Nat),(outO s acc).length=acc.length
 | []=>rfl
 | i::is=>by simp [outO,outO_len is]
theorem out_ok (ho:Obs m s.objs H) {acc:List Nat} (ha:AccOk s acc):Obs (mOf m acc) (outO s acc) H∧(outO s acc).all okO=true∧∀ id,Own (mOf m acc) (outO s acc) id→Own m s.objs id:=by
 have good:∀ {i:Nat},(ownSl (objAt s i)=true∨goodX s i=true)→objAt s i≠.dead:=by
  rintro i h e
  rcases h with h | h
  ·rw [e] at h;cases h
  ·unfold goodX at h;rw [e] at h;cases h
 have get:∀ {p:Nat} {o:Obj} {v:Value},(outO s acc)[p]?=some o→(mOf m acc)[p]?=some v→∃ i,acc[p]?=some i∧o=plainO (objAt s i)∧s.objs[i]?=some (objAt s i)∧m[i]?=some v∧(ownSl (objAt s i)=true∨goodX s i=true):=by
  intro p o v hp hv
  rw [outO_get] at hp
  cases hi:acc[p]? with
  | none=>simp [hi] at hp
  | some i=>
    simp only [hi,Option.map_some,Option.some.injEq] at hp
    have hk:=ha.2 i (List.mem_of_getElem? hi)
    have hget:=objAt_get (s:=s) (i:=i) rfl (good hk)
    have hm:i<m.length:=by rw [ho.len];exact (List.getElem?_eq_some_iff.1 hget).1
    refine ⟨i,rfl,hp.symm,hget,?_,hk⟩
    have:(mOf m acc)[p]?=some m[i]:=mOf_get hi (List.getElem?_eq_getElem hm)
    rw [this] at hv
    rw [List.getElem?_eq_getElem hm];exact hv
 refine ⟨⟨by simp [mOf,outO_len],?_,?_⟩,?_,?_⟩
 ·intro p o v hp hv
  obtain ⟨i,k1,rfl,k2,k3,k4⟩:=get hp hv
  have ok:=ho.ok i _ v k2 k3
  unfold goodX at k4
  revert ok k4
  cases objAt s i with
  | dead=>intro k4 _;rcases k4 with h | h<;>cases h
  | u l=>intro _ ok;exact ok
  | b l=>intro _ ok;exact ok
  | e=>
    rintro _ ⟨id,rfl,q1,q2⟩
    exact .inr ⟨id,0,0,rfl,.inr ⟨rfl,rfl⟩,q1,q2⟩
  | x cs=>
    rintro k4 ⟨id,vs,rfl,q1,q2,q3⟩
    have hc:cs.all closedV=true:=by
     rcases k4 with h | h
     ·cases h
     ·exact h
    exact ⟨id,vs,rfl,q1,q2,closedL_ok0 hc q3⟩
 ·intro p q o o' v v' id hp _ hq _ hv hv' hb hb'
  obtain ⟨i,k1,_,k2,k3,k4⟩:=get hp hv
  obtain ⟨j,l1,_,l2,l3,l4⟩:=get hq hv'
  have:=ho.dis i j _ _ v v' id k2 (good k4) l2 (good l4) k3 l3 hb hb'
  subst this
  have e1:=(List.getElem?_eq_some_iff.1 k1)
  have e2:=(List.getElem?_eq_some_iff.1 l1)
  have hpw:=List.pairwise_iff_getElem.1 ha.1
  rcases Nat.lt_trichotomy p q with hlt | heq | hgt
  ·exact absurd (e1.2.trans e2.2.symm) (hpw p q e1.1 e2.1 hlt)
  ·exact heq
  ·exact absurd (e2.2.trans e1.2.symm) (hpw q p e2.1 e1.1 hgt)
 ·rw [List.all_eq_true]
  intro o hmem
  obtain ⟨p,hp⟩:=List.getElem?_of_mem hmem
  rw [outO_get] at hp
  cases hi:acc[p]? with
  | none=>simp [hi] at hp
  | some i=>
    simp only [hi,Option.map_some,Option.some.injEq] at hp
    subst hp
    have hk:=ha.2 i (List.mem_of_getElem? hi)
    unfold goodX at hk
    revert hk
    cases objAt s i with
    | dead=>intro h;rcases h with h | h<;>cases h
    | x cs=>intro h;rcases h with h | h;cases h;exact h
    | _=>intro _;rfl
 ·rintro id ⟨p,o,v,hp,_,hv,hb⟩
  obtain ⟨i,k1,_,k2,k3,k4⟩:=get hp hv
  exact ⟨i,_,v,k2,good k4,k3,hb⟩
theorem post_ok {res:List IRes} {Q:SV→List Obj→Prop} {ao:List Obj} {m0 m':List Value} {H H':AH} {E':Env} {s':St} {c:Ctl} (hs':Sat tb H ⟨Own m0 ao,fun _=>none⟩ m' s' E' H') (hp:post res Q c s') :
  FnPost res (fun v H'=>∃ m' r ro,Q r ro∧Obs m' ro H'∧ro.all okO=true∧Den (fun id=>Own m' ro id∨id<H.n) m' H' r v∧(∀ id,Own m' ro id→H.n≤id∨Own m0 ao id)∧Frm (Own m0 ao) H H') c E' H':=by
 have fin:(on (resS s' res) fun xs=>onP (ex s' (tupS xs) []) fun x acc=>ap2 Q x (outO s' acc))→FnPost res (fun v H'=>∃ m' r ro,Q r ro∧Obs m' ro H'∧ro.all okO=true∧Den (fun id=>Own m' ro id∨id<H.n) m' H' r v∧(∀ id,Own m' ro id→H.n≤id∨Own m0 ao id)∧Frm (Own m0 ao) H H') .ret E' H':=by
  intro hp
  obtain ⟨xs,e1,hp⟩:=on_elim hp
  obtain ⟨y,acc,e2,hp⟩:=onP_elim hp
  obtain ⟨ws,e3,e4⟩:=resS_ok hs' e1
  obtain ⟨k1,_,k3⟩:=ex_ok (A':=fun id=>Own (mOf m' acc) (outO s' acc) id∨id<H.n) _ [] acc y _ e2 ⟨List.nodup_nil,fun i hi=>by simp at hi⟩ (tupS_ok e4)
  obtain ⟨o1,o2,o3⟩:=out_ok hs'.obs k1
  have k3':=k3 []
  rw [List.append_nil] at k3'
  simp only [FnPost,e3]
  exact ⟨mOf m' acc,y,outO s' acc,hp,o1,o2,k3',fun id hid=>hs'.own id (o3 id hid),hs'.fr⟩
 cases c with
 | exit id=>exact hp.elim
 | normal=>exact fin hp
 | ret=>exact fin hp
theorem fn_ok {k:Nat} {fi:FI} {fs cs args:List SV} {ao:List Obj} {Q:SV→List Obj→Prop} (hx:C.ext k=none) (hf:C.ft.get k=some fi)
  (h:∀ B d G,G=std C tb B ⟨d,fun _=>none⟩→∀ q:SV→List Obj→Prop,(∀ r ro,Q r ro→q r ro)→W G tb fi.code ⟨envS (fs++(args++cs)) 0,ao⟩ (post fi.res q)):FvC C tb (.f k fs cs) args ao Q:=by
 intro H m vf vs ho hgl hdf hda
 simp only [Den] at hdf
 obtain ⟨wf,wc,rfl,h1,h2⟩:=hdf
 refine ⟨k,wf,wc,rfl,Run.intro hx hf ?_⟩
 have hs:Sat tb H ⟨Own m ao,fun _=>none⟩ m ⟨envS (fs++(args++cs)) 0,ao⟩ (envOf (wf++(vs++wc)) 0) H:=
  ⟨ho,fun id h=>.inr h,fun t x hx=>envS_ok 0 t x (h1.app (hda.app h2)) hx,⟨Nat.le_refl _,fun _ _ _=>rfl,fun x h _ _=>h⟩,(fun i v h=>by cases h),hgl⟩
 refine (W_ok (h H (Own m ao) _ rfl Q (fun _ _ h=>h)) hs).mono ?_
 rintro c E' H' ⟨s',m',hp,hs'⟩
 exact post_ok hs' hp
theorem fq_ok {k:Nat} {fs cs args:List SV} {ao:List Obj} {Q:SV→List Obj→Prop} (h:FvC C tb (.f k fs cs) args ao Q):FvC C tb (.fq k fs cs) args ao Q:=by
 intro H m vf vs ho hgl hdf hda
 refine h H m vf vs ho hgl ?_ hda
 simp only [Den] at hdf ⊢
 obtain ⟨wf,wc,rfl,h1,h2⟩:=hdf
 exact ⟨wf,wc,rfl,DenL.mono (fun _ _ h=>h) (Nat.le_refl _) (fun _ _ _=>rfl) _ _ (fun _ _ _ h=>by simp at h) h1,DenL.mono (fun _ _ h=>h) (Nat.le_refl _) (fun _ _ _=>rfl) _ _ (fun _ _ _ h=>by simp at h) h2⟩
end
end Go.SX
end
section
set_option linter.unusedVariables false
set_option linter.unusedSimpArgs false
set_option linter.unusedSectionVars false
namespace Go.SX
open Go.AL
mutual
def ltV (k:Nat):SV→Bool
 | .s i=>Nat.blt i k
 | .ss i _ _=>Nat.blt i k
 | .si i _=>Nat.blt i k
 | .o i _=>Nat.blt i k
 | .os i _ _ _=>Nat.blt i k
 | .r _ cs=>ltL k cs
 | .p cs=>ltL k cs
 | .a l=>ltL k l
 | .t l=>ltL k l
 | .f _ fs cs=>ltL k fs&&ltL k cs
 | _=>true
def ltL (k:Nat):List SV→Bool
 | []=>true
 | x::xs=>ltV k x&&ltL k xs
end
mutual
theorem ltV_men {k j:Nat}:∀ (x:SV),ltV k x=true→men j x=true→j<k
 | .s i,h,hm=>by simp only [men,ltV] at h hm;have:=Nat.eq_of_beq_eq_true hm;subst this;exact Nat.le_of_ble_eq_true h
 | .ss i _ _,h,hm=>by simp only [men,ltV] at h hm;have:=Nat.eq_of_beq_eq_true hm;subst this;exact Nat.le_of_ble_eq_true h
 | .si i _,h,hm=>by simp only [men,ltV] at h hm;have:=Nat.eq_of_beq_eq_true hm;subst this;exact Nat.le_of_ble_eq_true h
 | .o i _,h,hm=>by simp only [men,ltV] at h hm;have:=Nat.eq_of_beq_eq_true hm;subst this;exact Nat.le_of_ble_eq_true h
 | .os i _ _ _,h,hm=>by simp only [men,ltV] at h hm;have:=Nat.eq_of_beq_eq_true hm;subst this;exact Nat.le_of_ble_eq_true h
 | .r _ cs,h,hm=>by simp only [men,ltV] at h hm;exact ltL_men cs h hm
 | .p cs,h,hm=>by simp only [men,ltV] at h hm;exact ltL_men cs h hm
 | .a cs,h,hm=>by simp only [men,ltV] at h hm;exact ltL_men cs h hm
 | .t cs,h,hm=>by simp only [men,ltV] at h hm;exact ltL_men cs h hm
 | .f _ fs cs,h,hm=>by
   simp only [men,ltV,Bool.and_eq_true,Bool.or_eq_true] at h hm
   rcases hm with hm | hm
   ·exact ltL_men fs h.1 hm
   ·exact ltL_men cs h.2 hm
 | .fq _ _ _,_,hm=>by cases hm
 | .v _,_,hm=>by cases hm
 | .i _ _,_,hm=>by cases hm
 | .n _ _,_,hm=>by cases hm
 | .b _,_,hm=>by cases hm
 | .kb _,_,hm=>by cases hm
 | .nil,_,hm=>by cases hm
 | .u _,_,hm=>by cases hm
 | .bl _,_,hm=>by cases hm
 | .g _,_,hm=>by cases hm
 | .any,_,hm=>by cases hm
theorem ltL_men {k j:Nat}:∀ (xs:List SV),ltL k xs=true→menL j xs=true→j<k
 | [],_,hm=>by cases hm
 | x::xs,h,hm=>by
   simp only [menL,ltL,Bool.and_eq_true,Bool.or_eq_true] at h hm
   rcases hm with hm | hm
   ·exact ltV_men x h.1 hm
   ·exact ltL_men xs h.2 hm
end
def leV (k:Nat) (x' x:SV):Prop:=match x',x with
 | .any,_=>True
 | .i k a,.n k' n=>k'=k∧a=.ofNat n
 | .b c',.kb c=>c'=c
 | x',x=>x=x'∧ltV k x'=true
def leE (k:Nat):Option SV→Option SV→Prop
 | none,_=>True
 | some x',some x=>leV k x' x
 | some _,none=>False
def noT:T SV→Bool
 | .nil=>true
 | .node v l r=>v.isNone&&noT l&&noT r
def leT (k:Nat):T SV→T SV→Prop
 | .nil,_=>True
 | .node v' l' r',.node v l r=>leE k v' v∧leT k l' l∧leT k r' r
 | .node v' l' r',.nil=>noT (.node v' l' r')=true
def leC (k:Nat):List SV→List SV→Prop
 | [],[]=>True
 | x'::xs',x::xs=>leV k x' x∧leC k xs' xs
 | _,_=>False
def leO (k:Nat):Obj→Obj→Prop
 | .dead,_=>True
 | .x cs',.x cs=>leC k cs' cs
 | .u l',.u l=>l'=l
 | .u l',.e=>l'=[]
 | .b l',.b l=>l'=l
 | .b l',.e=>l'=[]
 | .e,.e=>True
 | _,_=>False
def leOs (k:Nat):List Obj→List Obj→Prop
 | [],_=>True
 | o'::os',o::os=>leO k o' o∧leOs k os' os
 | _::_,[]=>False
def Le (s s':St):Prop:=leT s'.objs.length s'.env s.env∧leOs s'.objs.length s'.objs s.objs
def rnd {α:Type} (P:α→Prop) (μ:α→Nat) (upd:α→St) (k:Ctl→St→Prop) (a:α) (c:Ctl) (s:St):Prop:=match c with
 | .normal=>∃ a',P a'∧μ a'<μ a∧Le s (upd a')
 | .exit id=>k (.exit id) s
 | .ret=>k .ret s
def unr (G:Sg) (b:IC) (k:Ctl→St→Prop) (c:Ctl) (s:St):Prop:=match c with
 | .normal=>G.lp b s k
 | .exit id=>k (.exit id) s
 | .ret=>k .ret s
def St.regB (s:St) (i off:Nat) (o:Obj):St:=match objAt s i with
 | .x cs=>⟨s.env,s.objs.set i (.x (cs.set off (.s s.objs.length)))++[o]⟩
 | _=>s
section
variable {A A':Nat→Prop} {m m':List Value} {H:AH} {E:Env} {C:Ctx} {tb:List (List Int)} {B:AH} {D:Bs} {s s':St}
theorem noT_get:∀ (t:T SV) (k:Nat),noT t=true→t.get k=none
 | .nil,k,h=>rfl
 | .node v l r,k,h=>by
   simp only [noT,Bool.and_eq_true,Option.isNone_iff_eq_none] at h
   simp only [T.get]
   cases k.beq 0 with
   | true=>exact h.1.1
   | false=>
     simp only [cond_false]
     cases (k % 2).beq 1 with
     | true=>exact noT_get l _ h.1.2
     | false=>exact noT_get r _ h.2
theorem leT_get {k:Nat}:∀ {t' t:T SV} (i:Nat) {x':SV},leT k t' t→t'.get i=some x'→∃ x,t.get i=some x∧leV k x' x
 | .nil,t,i,x',h,hx=>by cases hx
 | .node v' l' r',.nil,i,x',h,hx=>by rw [noT_get _ _ h] at hx;cases hx
 | .node v' l' r',.node v l r,i,x',h,hx=>by
   obtain ⟨h1,h2,h3⟩:=h
   simp only [T.get] at hx ⊢
   cases hi:i.beq 0 with
   | true=>
     simp only [hi,cond_true] at hx ⊢
     subst hx
     cases v with
     | none=>exact h1.elim
     | some x=>exact ⟨x,rfl,h1⟩
   | false=>
     simp only [hi,cond_false] at hx ⊢
     cases hb:(i % 2).beq 1 with
     | true=>simp only [hb,cond_true] at hx ⊢;exact leT_get _ h2 hx
     | false=>simp only [hb,cond_false] at hx ⊢;exact leT_get _ h3 hx
theorem leOs_get {k:Nat}:∀ {os' os:List Obj} {i:Nat} {o':Obj},leOs k os' os→os'[i]?=some o'→∃ o,os[i]?=some o∧leO k o' o
 | [],os,i,o',h,hx=>by simp at hx
 | o1::os',[],i,o',h,hx=>h.elim
 | o1::os',o2::os,0,o',h,hx=>by simp at hx;subst hx;exact ⟨o2,rfl,h.1⟩
 | o1::os',o2::os,i+1,o',h,hx=>by simpa using leOs_get h.2 (by simpa using hx)
theorem leV_ok {k:Nat} {x' x:SV} {w:Value} (h:leV k x' x) (hA:∀ id,A' id→A id) (hd:Den A m H x w):Den A' (m.take k) H x' w:=by
 unfold leV at h
 split at h
 ·exact trivial
 ·obtain ⟨rfl,rfl⟩:=h;exact hd
 ·subst h;exact hd
 ·obtain ⟨rfl,h2⟩:=h
  refine Den.mono (fun id _ h=>hA id h) (Nat.le_refl _) (fun _ _ _=>rfl) _ w (fun j v hj hv=>?_) hd
  rw [List.getElem?_take,if_pos (ltV_men _ h2 hj)];exact hv
theorem leC_ok {k:Nat} (hA:∀ id,A' id→A id):∀ {xs' xs:List SV} {ws:List Value},leC k xs' xs→DenL A m H xs ws→DenL A' (m.take k) H xs' ws
 | [],[],ws,h,hd=>hd
 | [],x::xs,ws,h,hd=>h.elim
 | x'::xs',[],ws,h,hd=>h.elim
 | x'::xs',x::xs,ws,h,hd=>by
   simp only [DenL] at hd ⊢
   obtain ⟨w,ws',rfl,h2,h3⟩:=hd
   exact ⟨w,ws',rfl,leV_ok h.1 hA h2,leC_ok hA h.2 h3⟩
theorem leO_dead {k:Nat} {o' o:Obj} (h:leO k o' o) (hd:o'≠.dead):o≠.dead:=by
 rintro rfl
 cases o'<;>first | exact hd rfl | exact h
theorem Sat.le {d:Nat→Prop} (hs:Sat tb B ⟨d,fun _=>none⟩ m s E H) (h:Le s s'):Sat tb B ⟨d,fun _=>none⟩ (m.take s'.objs.length) s' E H:=by
 obtain ⟨h1,h2⟩:=h
 have hlen:s'.objs.length≤s.objs.length:=by
  apply Nat.le_of_not_lt
  intro hlt
  obtain ⟨o,k1,_⟩:=leOs_get h2 (List.getElem?_eq_getElem hlt)
  rw [List.getElem?_eq_none (Nat.le_refl _)] at k1
  cases k1
 have get:∀ {i:Nat} {o':Obj} {v:Value},s'.objs[i]?=some o'→(m.take s'.objs.length)[i]?=some v→∃ o,s.objs[i]?=some o∧leO s'.objs.length o' o∧m[i]?=some v:=by
  intro i o' v ho hv
  obtain ⟨o,k1,k2⟩:=leOs_get h2 ho
  rw [List.getElem?_take] at hv
  split at hv
  ·exact ⟨o,k1,k2,hv⟩
  ·cases hv
 have hA:∀ id,Own (m.take s'.objs.length) s'.objs id→Own m s.objs id:=by
  rintro id ⟨i,o',v,k1,k2,k3,k4⟩
  obtain ⟨o,l1,l2,l3⟩:=get k1 k3
  exact ⟨i,o,v,l1,leO_dead l2 k2,l3,k4⟩
 refine ⟨⟨?_,?_,?_⟩,fun id hid=>hs.own id (hA id hid),?_,hs.fr,(fun i v h=>by cases h),hs.gl⟩
 ·rw [List.length_take,hs.obs.len];omega
 ·intro i o' v k1 k2
  obtain ⟨o,l1,l2,l3⟩:=get k1 k2
  have ok:=hs.obs.ok i o v l1 l3
  cases o' with
  | dead=>exact trivial
  | x cs'=>
    cases o with
    | x cs=>
      obtain ⟨id,vs,rfl,q1,q2,q3⟩:=ok
      exact ⟨id,vs,rfl,q1,q2,leC_ok hA l2 q3⟩
    | _=>exact l2.elim
  | u l'=>
    cases o with
    | u l=>obtain rfl:=(show l'=l from l2);exact ok
    | e=>
      obtain rfl:=(show l'=[] from l2)
      obtain ⟨id,rfl,q1,q2⟩:=ok
      exact .inr ⟨id,0,0,rfl,.inr ⟨rfl,rfl⟩,q1,q2⟩
    | _=>exact l2.elim
  | b l'=>
    cases o with
    | b l=>obtain rfl:=(show l'=l from l2);exact ok
    | e=>
      obtain rfl:=(show l'=[] from l2)
      obtain ⟨id,rfl,q1,q2⟩:=ok
      exact .inr ⟨id,0,0,rfl,.inr ⟨rfl,rfl⟩,q1,q2⟩
    | _=>exact l2.elim
  | e=>
    cases o with
    | e=>exact ok
    | _=>exact l2.elim
 ·intro i j o1 o2 v1 v2 id k1 k2 k3 k4 k5 k6 k7 k8
  obtain ⟨p1,l1,l2,l3⟩:=get k1 k5
  obtain ⟨p2,q1,q2,q3⟩:=get k3 k6
  exact hs.obs.dis i j p1 p2 v1 v2 id l1 (leO_dead l2 k2) q1 (leO_dead q2 k4) l3 q3 k7 k8
 ·intro t x' hx
  obtain ⟨x,e1,e2⟩:=leT_get t h1 hx
  obtain ⟨w,e3,e4⟩:=hs.env t x e1
  exact ⟨w,e3,leV_ok e2 hA e4⟩
variable {G:Sg} {b:IC} {k:Ctl→St→Prop}
theorem lp_ok {d:Nat→Prop} (hG:G=std C tb B ⟨d,fun _=>none⟩) {α:Type} (P:α→Prop) (μ:α→Nat) (upd:α→St) (a0:α) (h0:P a0) (hle:Le s (upd a0)) (h:∀ a,P a→W G tb b (upd a) (rnd P μ upd k a)):G.lp b s k:=by
 subst hG
 intro m E H hs
 have main:∀ (n:Nat) (a:α) (m:List Value) (E:Env) (H:AH),μ a<n→P a→Sat tb B ⟨d,fun _=>none⟩ m (upd a) E H→Cw C (.loop b) E H fun c E' H'=>∃ s' m',k c s'∧Sat tb B ⟨d,fun _=>none⟩ m' s' E' H':=by
  intro n
  induction n with
  | zero=>intro a m E H hn;omega
  | succ n ih=>
    intro a m E H hn hP hs
    refine Cw.loop ((W_ok (h a hP) hs).mono ?_)
    rintro c E' H' ⟨s1,m1,q1,q2⟩
    cases c with
    | normal=>
      obtain ⟨a',p1,p2,p3⟩:=q1
      exact ih a' _ E' H' (by omega) p1 (q2.le p3)
    | exit id=>exact ⟨s1,m1,q1,q2⟩
    | ret=>exact ⟨s1,m1,q1,q2⟩
 exact main _ a0 _ E H (Nat.lt_succ_self _) h0 (hs.le hle)
theorem lp {d:Nat→Prop} (hG:G=std C tb B ⟨d,fun _=>none⟩) {α:Type} (P:α→Prop) (μ:α→Nat) (upd:St→α→St) (a0:α) (h0:P a0) (hle:Le s (upd s a0)) (h:∀ a,P a→W G tb b (upd s a) (rnd P μ (upd s) k a)):G.lp b s k:=lp_ok hG P μ (upd s) a0 h0 hle h
theorem lp_one (hG:G=std C tb B D) (h:W G tb b s (unr G b k)):G.lp b s k:=by
 subst hG
 intro m E H hs
 refine Cw.loop ((W_ok h hs).mono ?_)
 rintro c E' H' ⟨s1,m1,q1,q2⟩
 cases c with
 | normal=>exact q1 m1 E' H' q2
 | exit id=>exact ⟨s1,m1,q1,q2⟩
 | ret=>exact ⟨s1,m1,q1,q2⟩
def emptyO:Obj→Bool
 | .u []=>true
 | .b []=>true
 | _=>false
theorem Sat.addNil (hs:Sat tb B D m s E H) {o:Obj} (ho:emptyO o=true):Sat tb B D (m++[.slice none 0 0]) (s.add o) E H∧(m++[.slice none 0 0])[s.objs.length]?=some (Value.slice none 0 0):=by
 have:=hs.add (o:=o) (v:=.slice none 0 0) (H':=H) (Nat.le_refl _) (fun _ _=>rfl) (fun x h _=>h) (fun id e=>by cases e) (fun _ _=>by
  unfold emptyO at ho
  split at ho
  ·exact .inl ⟨rfl,rfl⟩
  ·exact .inl ⟨rfl,rfl⟩
  ·cases ho)
 exact ⟨this.1,this.2.2⟩
theorem Sat.regB (hs:Sat tb B D m s E H) (i off:Nat) (o:Obj) (ho:emptyO o=true) (hc:(match objAt s i with | .x cs=>cs[off]? | _=>none)=some .nil):Sat tb B D (m++[.slice none 0 0]) (s.regB i off o) E H:=by
 obtain ⟨h1,h2⟩:=hs.addNil ho
 split at hc
 ·rename_i cs hob
  have hget:=objAt_get hob (by simp)
  have hil:i<s.objs.length:=(List.getElem?_eq_some_iff.1 hget).1
  have hst:s.regB i off o=(s.add o).setO i (.x (cs.set off (.s s.objs.length))):=by
   unfold St.regB
   rw [hob]
   simp only [St.setO,St.add]
   rw [List.set_append_left _ _ hil]
  rw [hst]
  have hgi:(s.add o).objs[i]?=some (.x cs):=by
   show (s.objs++[o])[i]?=_
   rw [List.getElem?_append_left hil];exact hget
  have hmi:i<(m++[Value.slice none 0 0]).length:=by rw [h1.obs.len];exact (List.getElem?_eq_some_iff.1 hgi).1
  have hmv:=List.getElem?_eq_getElem hmi
  generalize (m++[Value.slice none 0 0])[i]=vi at hmv
  have hv:(m++[Value.slice none 0 0])[i]?=some vi:=hmv
  obtain ⟨id,vs,rfl,q1,q2,q3⟩:=h1.obs.ok i _ vi hgi hv
  have:=h1.upd (i:=i) (oi:=.x cs) (o':=.x (cs.set off (.s s.objs.length))) (s':=(s.add o).setO i (.x (cs.set off (.s s.objs.length)))) (H':=H) hgi (by simp) hv (Nat.le_refl _) (fun _ _ _=>rfl) (fun x h _ _=>h) (fun k hk=>.inr hk) (by simp [St.setO]) (by
    show ((s.add o).objs.set i _)[i]?=_
    rw [List.getElem?_set_self (List.getElem?_eq_some_iff.1 hgi).1])
   (fun j oj hj h=>⟨oj,by
    change ((s.add o).objs.set i _)[j]?=_ at h
    rwa [List.getElem?_set_ne (Ne.symm hj)] at h,.inl ⟨rfl,.inl rfl⟩⟩)
   (fun t x hx=>.inr ⟨hx,.inl rfl⟩) (fun _=>⟨rfl,_,rfl⟩)
   (fun hden hdenL=>⟨id,vs,rfl,q1,q2,?_⟩)
  ·have e:(m++[Value.slice none 0 0]).set i (.pointer (some ⟨id,0,none⟩))=m++[Value.slice none 0 0]:=by
    apply List.ext_getElem?
    intro j
    by_cases hj:j=i
    ·subst hj;rw [List.getElem?_set_self hmi];exact hv.symm
    ·rw [List.getElem?_set_ne (Ne.symm hj)]
   rw [e] at this
   exact this.1
  ·have hd2:=hdenL cs vs (.inl rfl) q3
   have setL:∀ {A m H} {xs:List SV} {ws:List Value} (n:Nat) {y:SV},DenL A m H xs ws→xs[n]?=some .nil→Den A m H y (.slice none 0 0)→DenL A m H (xs.set n y) ws:=by
    intro A m H xs
    induction xs with
    | nil=>intro ws n y hd hx;simp at hx
    | cons x xs ih=>
      intro ws n y hd hx hy
      simp only [DenL] at hd
      obtain ⟨w,ws',rfl,g1,g2⟩:=hd
      cases n with
      | zero=>
        simp at hx
        subst hx
        obtain rfl:=(show w=_ from g1)
        exact ⟨_,ws',rfl,hy,g2⟩
      | succ n=>exact ⟨w,ws',rfl,g1,ih n g2 (by simpa using hx) hy⟩
   refine setL off hd2 hc ?_
   simp only [Den]
   refine ⟨?_,_,_,_,rfl⟩
   have e:(m++[Value.slice none 0 0]).set i (.pointer (some ⟨id,0,none⟩))=m++[Value.slice none 0 0]:=by
    apply List.ext_getElem?
    intro j
    by_cases hj:j=i
    ·subst hj;rw [List.getElem?_set_self hmi];exact hv.symm
    ·rw [List.getElem?_set_ne (Ne.symm hj)]
   rw [e]
   exact h2
 ·cases hc
theorem lp_regB (hG:G=std C tb B D) (i off:Nat) (o:Obj) (ho:emptyO o=true) (hc:(match objAt s i with | .x cs=>cs[off]? | _=>none)=some .nil) (h:G.lp b (s.regB i off o) k):G.lp b s k:=by
 subst hG
 intro m E H hs
 exact h (m++[.slice none 0 0]) E H (hs.regB i off o ho hc)
end
end Go.SX
end
section
set_option linter.unusedVariables false
namespace Go.SX
open Go.AL
variable {C:Ctx} {tb:List (List Int)} {B:AH} {D:Bs} {s:St} {G:Sg}
theorem call (hG:G=std C tb B D) {f:SV} {k:Nat} {fs' cs' vs vs':List SV} {ao:List Obj} {Q:SV→List Obj→Prop} {K:SV→St→Bool→Prop} (ci:List Nat) (h:FvC C tb (.f k fs' cs') vs' ao Q) (hc:cvt G s ci false f vs (.fq k fs' cs') vs' ao)
  (hk:∀ r ro,Q r ro→K (sh s.objs.length r) (s.after ci ro) (!ci.isEmpty)):G.cl f vs s K:=by
 subst hG
 exact cl_ok ci false (fq_ok h) hc hk
theorem callQ (hG:G=std C tb B D) {f f':SV} {vs vs':List SV} {ao:List Obj} {Q:SV→List Obj→Prop} {K:SV→St→Bool→Prop} (ci:List Nat) (h:FvC C tb f' vs' ao Q) (hc:cvt G s ci false f vs f' vs' ao)
  (hk:∀ r ro,Q r ro→K (sh s.objs.length r) (s.after ci ro) (!ci.isEmpty)):G.cl f vs s K:=by
 subst hG
 exact cl_ok ci false h hc hk
theorem ite (hG:G=std C tb B D) {c:Bool} {P Q:Prop} (h1:c=true→P) (h2:c=false→Q):G.ite c P Q:=by
 subst hG
 exact ⟨h1,h2⟩
theorem okd (hG:G=std C tb B D) {bits:List Nat} {fl:List (Bool×Bool)} {P:Prop} (h:okDraw bits fl=true) (hp:P):G.okd bits fl∧P:=by
 subst hG
 exact ⟨h,hp⟩
def RB (p:Bool) (r:SV) (ro:List Obj):Prop:=∃ x,r=.b x∧ro=[]∧x=p
def RI (k:IntKind) (n:Int) (r:SV) (ro:List Obj):Prop:=∃ x,r=.i k x∧ro=[]∧x=n
def RV (l:List Int) (sg:Bool) (r:SV) (ro:List Obj):Prop:=∃ l' sg',r=.a [.s 0,.b sg']∧ro=[.u l']∧l'=l∧sg'=sg
def RV1 (x:Int) (sg:Bool) (r:SV) (ro:List Obj):Prop:=∃ x' sg',r=.a [.s 0,.b sg']∧ro=[.u [x']]∧x'=x∧sg'=sg
theorem RV.one {x:Int} {sg:Bool} {r:SV} {ro:List Obj} (h:RV [x] sg r ro):RV1 x sg r ro:=by
 obtain ⟨l,s,rfl,rfl,rfl,rfl⟩:=h
 exact ⟨x,s,rfl,rfl,rfl,rfl⟩
theorem RV1.vec {x:Int} {sg:Bool} {r:SV} {ro:List Obj} (h:RV1 x sg r ro):RV [x] sg r ro:=by
 obtain ⟨l,s,rfl,rfl,rfl,rfl⟩:=h
 exact ⟨[l],s,rfl,rfl,rfl,rfl⟩
def RE (c:Bool) (l:List Int) (sg:Bool) (e:Int) (r:SV) (ro:List Obj):Prop:=
 (c=true∧∃ l' sg' e',r=.t [.a [.s 0,.b sg'],.i .i64 e']∧ro=[.u l']∧l'=l∧sg'=sg∧e'=0)∨(c=false∧∃ sg' e',r=.t [.a [.nil,.b sg'],.i .i64 e']∧ro=[]∧sg'=false∧e'=e)
def RU (l:List Int) (r:SV) (ro:List Obj):Prop:=∃ l',r=.s 0∧ro=[.u l']∧l'=l
def RL (l:List Bool) (r:SV) (ro:List Obj):Prop:=∃ l',r=.s 0∧ro=[.b l']∧l'=l
end Go.SX
end
section
set_option linter.unusedVariables false
set_option linter.unusedSimpArgs false
set_option linter.unusedSectionVars false
namespace Go.SX
open Go.AL
section
variable {A:Nat→Prop} {m m':List Value} {H H':AH} {E E':Env} {C:Ctx} {tb:List (List Int)} {B:AH} {D:Bs} {s s':St} {G:Sg}
def SWs (C:Ctx) (tb:List (List Int)) (B:AH) (D:Bs) (ic:IC) (s:St) (k:Ctl→St→Prop):Prop:=
 ∀ m E H,Sat tb B D m s E H→Cw C ic E H fun c E' H'=>∃ s' m',k c s'∧Sat tb B D m' s' E' H'
def nk (R:St→Prop) (k:Ctl→St→Prop) (c:Ctl) (s:St):Prop:=match c with
 | .normal=>R s
 | .exit id=>k (.exit id) s
 | .ret=>k .ret s
theorem sws_W (hG:G=std C tb B D) {ic:IC} {k:Ctl→St→Prop} (h:W G tb ic s k):SWs C tb B D ic s k:=by
 subst hG
 exact fun m E H hs=>W_ok h hs
theorem sws_seq (hG:G=std C tb B D) {a b:IC} {k:Ctl→St→Prop} (h:∀ R:St→Prop,(∀ s',SWs C tb B D b s' k→R s')→W G tb a s (nk R k)):SWs C tb B D (.seq a b) s k:=by
 subst hG
 intro m E H hs
 refine Cw.seq ((W_ok (h _ fun _ h=>h) hs).mono ?_)
 rintro c E' H' ⟨s',m',q1,q2⟩
 cases c with
 | normal=>exact q1 m' E' H' q2
 | exit id=>exact ⟨s',m',q1,q2⟩
 | ret=>exact ⟨s',m',q1,q2⟩
theorem sws_seq2 {a b:IC} {k:Ctl→St→Prop} (h:SWs C tb B D a s (nk (fun s'=>SWs C tb B D b s' k) k)):SWs C tb B D (.seq a b) s k:=by
 intro m E H hs
 refine Cw.seq ((h m E H hs).mono ?_)
 rintro c E' H' ⟨s',m',q1,q2⟩
 cases c with
 | normal=>exact q1 m' E' H' q2
 | exit id=>exact ⟨s',m',q1,q2⟩
 | ret=>exact ⟨s',m',q1,q2⟩
theorem fn_sws {k:Nat} {fi:FI} {fs cs args:List SV} {ao:List Obj} {Q:SV→List Obj→Prop} (hx:C.ext k=none) (hf:C.ft.get k=some fi)
  (h:∀ B d,∀ q:SV→List Obj→Prop,(∀ r ro,Q r ro→q r ro)→SWs C tb B ⟨d,fun _=>none⟩ fi.code ⟨envS (fs++(args++cs)) 0,ao⟩ (post fi.res q)):FvC C tb (.f k fs cs) args ao Q:=by
 intro H m vf vs ho hgl hdf hda
 simp only [Den] at hdf
 obtain ⟨wf,wc,rfl,h1,h2⟩:=hdf
 refine ⟨k,wf,wc,rfl,Run.intro hx hf ?_⟩
 have hs:Sat tb H ⟨Own m ao,fun _=>none⟩ m ⟨envS (fs++(args++cs)) 0,ao⟩ (envOf (wf++(vs++wc)) 0) H:=
  ⟨ho,fun id h=>.inr h,fun t x hx=>envS_ok 0 t x (h1.app (hda.app h2)) hx,⟨Nat.le_refl _,fun _ _ _=>rfl,fun x h _ _=>h⟩,(fun i v h=>by cases h),hgl⟩
 refine (h H (Own m ao) Q (fun _ _ h=>h) m _ H hs).mono ?_
 rintro c E' H' ⟨s',m',hp,hs'⟩
 exact post_ok hs' hp
def boxM (m:List Value) (objs:List Obj) (i:Nat):Option Value:=match objs[i]? with
 | some (.x _)=>m[i]?
 | _=>none
theorem sws_fix {d:Nat→Prop} {ic:IC} {k:Ctl→St→Prop} (h:∀ m0:List Value,m0.length=s.objs.length→SWs C tb B ⟨d,boxM m0 s.objs⟩ ic s k):SWs C tb B ⟨d,fun _=>none⟩ ic s k:=by
 intro m E H hs
 have hs':Sat tb B ⟨d,boxM m s.objs⟩ m s E H:=⟨hs.obs,hs.own,hs.env,hs.fr,fun i v hv=>by
  change boxM m s.objs i=some v at hv
  unfold boxM at hv
  split at hv
  ·rename_i cs hc;exact ⟨hv,cs,hc⟩
  ·exact (by cases hv),hs.gl⟩
 refine (h m hs.obs.len m E H hs').mono ?_
 rintro c E' H' ⟨s1,m1,q1,q2⟩
 exact ⟨s1,m1,q1,q2.obs,q2.own,q2.env,q2.fr,fun i v h=>(by cases h),q2.gl⟩
theorem sws_env {ic:IC} {k:Ctl→St→Prop} (e:T SV) (he:leT s.objs.length e s.env) (h:SWs C tb B D ic ⟨e,s.objs⟩ k):SWs C tb B D ic s k:=by
 intro m E H hs
 refine h m E H ⟨hs.obs,hs.own,fun t x hx=>?_,hs.fr,hs.fix,hs.gl⟩
 obtain ⟨y,e1,e2⟩:=leT_get t he hx
 obtain ⟨w,e3,e4⟩:=hs.env t y e1
 have:=leV_ok (A':=Own m s.objs) e2 (fun _ h=>h) e4
 rw [←hs.obs.len,List.take_length] at this
 exact ⟨w,e3,this⟩
theorem Sat.rebase (hs:Sat tb B D m s E H):Sat tb { H with wl:=H.n } ⟨Own m s.objs,D.m0⟩ m s E { H with wl:=H.n }:=by
 have:=hs.wl (y:=H.n) (fun x _ h=>h)
 exact ⟨this.obs,fun id h=>.inr h,this.env,⟨Nat.le_refl _,fun _ _ _=>rfl,fun x h _ _=>h⟩,hs.fix,hs.gl⟩
theorem Sat.back (hs:Sat tb B D m s E H) (h:Sat tb { H with wl:=H.n } ⟨Own m s.objs,D.m0⟩ m' s' E' H') {y:Nat} (hy:min H.wl H'.wl≤y):Sat tb B D m' s' E' { H' with wl:=y }:=by
 have hown:∀ id,Own m s.objs id→B.n≤id∨D.d id:=hs.own
 refine ⟨⟨h.obs.len,fun i o v h1 h2=>ObjOk.same (H:=H') (H':={ H' with wl:=y }) (fun _ _ h=>h) (Nat.le_refl _) (fun _ _ _=>rfl) (fun _ _=>rfl) (fun _ _ _ h=>h) (h.obs.ok i o v h1 h2),h.obs.dis⟩,?_,?_,⟨Nat.le_trans hs.fr.n h.fr.n,?_,?_⟩,h.fix,h.gl⟩
 ·intro id hid
  rcases h.own id hid with h1 | h1
  ·exact .inl (Nat.le_trans hs.fr.n h1)
  ·exact hown id h1
 ·intro t x hx
  obtain ⟨w,e1,e2⟩:=h.env t x hx
  exact ⟨w,e1,e2.wl⟩
 ·intro id hid hd
  have:¬ Own m s.objs id:=fun ho=>by
   rcases hown id ho with h1 | h1
   ·omega
   ·exact hd h1
  have e:=h.fr.get id (Nat.lt_of_lt_of_le hid hs.fr.n) this
  show H'.t.get id=_
  rw [e]
  exact hs.fr.get id hid hd
 ·intro x h1 h2 h3
  have a:=hs.fr.wl x h1 h2 h3
  have hBn:=hs.fr.n
  have b:=h.fr.wl x (by show x≤H.n;omega) (by show x≤H.n;omega) fun id hid=>by
   rcases hown id hid with h1 | h1
   ·omega
   ·exact h3 id h1
  show x≤y
  omega
theorem evOps_unset {c:AL.Call} {t:Nat}:∀ {os:List IOper} {E E':Env} {H H':AH} {fl:List (Bool×Bool)},unset t os=true→evOps c os E H=some (E',H',fl)→E'.get t=E.get t
 | [],E,E',H,H',fl,_,he=>by
   simp only [evOps,Option.some.injEq,Prod.mk.injEq] at he
   obtain ⟨rfl,_⟩:=he
   rfl
 | o::os,E,E',H,H',fl,hu,he=>by
   simp only [unset,List.all_cons,Bool.and_eq_true] at hu
   have hput:∀ v,(AL.put E o.dst v).get t=E.get t:=by
    intro v
    cases hd:o.dst with
    | none=>rfl
    | some d=>
      rw [hd] at hu
      have hne:d≠t:=fun e=>by subst e;simp at hu
      show (T.set E d v).get t=_
      rw [T.get_set_ne _ _ (Ne.symm hne)]
   simp only [evOps,cond_eq_ite] at he
   split at he
   ·cases he
   ·split at he
    ·split at he
     ·cases he
     ·split at he
      ·cases he
      ·rename_i h1 _ _ _ h2
       simp only [Option.some.injEq,Prod.mk.injEq] at he
       obtain ⟨rfl,_⟩:=he
       rw [evOps_unset hu.2 h2,hput]
    ·split at he
     ·cases he
     ·split at he
      ·cases he
      ·rename_i h1 _ _ _ h2
       simp only [Option.some.injEq,Prod.mk.injEq] at he
       obtain ⟨rfl,_⟩:=he
       rw [evOps_unset hu.2 h2,hput]
   ·split at he
    ·cases he
    ·rename_i h2
     simp only [Option.some.injEq,Prod.mk.injEq] at he
     obtain ⟨rfl,_⟩:=he
     rw [evOps_unset hu.2 h2,hput]
theorem Ow.unset {t:Nat} {os:List IOper} {Q:Env→AH→List (Bool×Bool)→Prop} (hu:AL.unset t os=true) (h:Ow C os E H Q):Ow C os E H fun E' H' fl=>Q E' H' fl∧E'.get t=E.get t:=by
 obtain ⟨n,E1,H1,fl,h1,h2⟩:=h
 exact ⟨n,E1,H1,fl,h1,h2,evOps_unset hu h1⟩
theorem Ow.len {os:List IOper} {Q:Env→AH→List (Bool×Bool)→Prop} (h:Ow C os E H Q):Ow C os E H fun E' H' fl=>Q E' H' fl∧fl.length=os.length:=by
 obtain ⟨n,E1,H1,fl,h1,h2⟩:=h
 refine ⟨n,E1,H1,fl,h1,h2,?_⟩
 clear h2
 induction os generalizing E H fl with
 | nil=>
   simp only [evOps,Option.some.injEq,Prod.mk.injEq] at h1
   obtain ⟨_,_,rfl⟩:=h1
   rfl
 | cons o os ih=>
   simp only [evOps,cond_eq_ite] at h1
   repeat' (split at h1)
   all_goals first
    | (cases h1;done)
    | (rename_i h2;simp only [Option.some.injEq,Prod.mk.injEq] at h1;obtain ⟨rfl,rfl,rfl⟩:=h1;simp [ih _ h2])
def FlL (as bs:List (Bool×Bool)):Prop:=as.length=bs.length∧∀ i,((as.getD i (false,false)).1=true→(bs.getD i (false,false)).1=true)∧((as.getD i (false,false)).2=true→(bs.getD i (false,false)).2=true)
theorem okDraw_le2 {bits:List Nat} {as bs:List (Bool×Bool)} (h:FlL as bs) (hb:okDraw bits bs=true):okDraw bits as=true:=by
 unfold okDraw at hb ⊢
 rw [Bool.or_eq_true] at hb ⊢
 rcases hb with hb | hb
 ·refine .inl ?_
  rw [List.all_eq_true] at hb ⊢
  intro x hx
  obtain ⟨i,hi,rfl⟩:=List.mem_iff_getElem.1 hx
  have h1:=(h.2 i).2
  rw [List.getD_eq_getElem?_getD,List.getD_eq_getElem?_getD,List.getElem?_eq_getElem hi,List.getElem?_eq_getElem (by rw [←h.1];exact hi)] at h1
  have h2:=hb _ (List.getElem_mem (by rw [←h.1];exact hi))
  simp only [Option.getD_some,Bool.not_eq_true'] at h1 h2 ⊢
  cases hc:as[i].2 with
  | false=>rfl
  | true=>rw [h1 hc] at h2;cases h2
 ·refine .inr ?_
  rw [h.1]
  rw [List.all_eq_true] at hb ⊢
  intro j hj
  have h1:=hb j hj
  rw [List.all_eq_true] at h1 ⊢
  intro i hi
  have h2:=h1 i hi
  have g1:=h.2 i
  have g2:=h.2 j
  simp only [pairOk] at h2 ⊢
  revert h2 g1 g2
  generalize as.getD i (false,false)=a
  generalize as.getD j (false,false)=a'
  generalize bs.getD i (false,false)=b
  generalize bs.getD j (false,false)=b'
  obtain ⟨a1,a2⟩:=a
  obtain ⟨a1',a2'⟩:=a'
  obtain ⟨b1,b2⟩:=b
  obtain ⟨b1',b2'⟩:=b'
  generalize (bits.getD j 0).testBit i=t
  intro h2 g1 g2
  revert h2 g1 g2
  cases a1<;>cases a1'<;>cases a2<;>cases a2'<;>cases b2<;>cases b2'<;>cases b1<;>cases b1'<;>cases t<;>simp
def markC (n:Nat) (E:Env) (wl:Nat) (all:List IOper) (fa:List (Bool×Bool)):List IOper→Bool
 | o::os=>oldLoad n E o os&&(match loadBlk E o.op with
   | some b=>missed b E wl all fa
   | none=>false)
 | []=>false
theorem mark2_len {n wl:Nat} {all:List IOper} {fa:List (Bool×Bool)}:∀ (os:List IOper) (fl:List (Bool×Bool)),(mark2 n E wl all fa os fl).length=fl.length
 | [],fl=>by simp [mark2]
 | o::os,[]=>rfl
 | o::os,f::fs=>by simp [mark2,mark2_len os fs]
theorem mark2_get {n wl:Nat} {all:List IOper} {fa:List (Bool×Bool)}:∀ (os:List IOper) (fl:List (Bool×Bool)) (i:Nat),os.length=fl.length→(mark2 n E wl all fa os fl).getD i (false,false)=bif markC n E wl all fa (os.drop i) then (false,(fl.getD i (false,false)).2) else fl.getD i (false,false)
 | [],[],i,_=>by simp [mark2,markC]
 | [],f::fs,i,h=>by cases h
 | o::os,[],i,h=>by cases h
 | o::os,f::fs,0,h=>by
   simp only [mark2,markC,List.drop_zero,List.getD_cons_zero]
   rfl
 | o::os,f::fs,i+1,h=>by
   simp only [mark2,List.getD_cons_succ,List.drop_succ_cons]
   exact mark2_get os fs i (by simpa using h)
theorem mark2_ok {n wl:Nat} {bits:List Nat} {os:List IOper} {fl f2:List (Bool×Bool)} (j:Nat) (hl:os.length=fl.length) (hf:FlLe fl f2) (hj:markC n E wl os fl (os.drop j)=true) (hg:okDraw bits (f2.set j (false,(f2.getD j (false,false)).2))=true):okDraw bits (mark2 n E wl os fl os fl)=true:=by
 refine okDraw_le2 (bs:=f2.set j (false,(f2.getD j (false,false)).2)) ⟨by rw [mark2_len,hf.len];simp,fun i=>?_⟩ hg
 rw [mark2_get os fl i hl]
 have g:=hf.get i
 by_cases e:i=j
 ·subst e
  rw [hj]
  simp only [cond_true]
  refine ⟨fun h=>by simp at h,fun h=>?_⟩
  by_cases hlt:i<f2.length
  ·rw [List.getD_eq_getElem?_getD,List.getElem?_set_self hlt]
   exact g.2 h
  ·have:=g.2 h
   rw [List.getD_eq_getElem?_getD,List.getElem?_eq_none (by omega)] at this
   cases this
 ·have e2:(f2.set j (false,(f2.getD j (false,false)).2)).getD i (false,false)=f2.getD i (false,false):=by
   rw [List.getD_eq_getElem?_getD,List.getElem?_set_ne (Ne.symm e),List.getD_eq_getElem?_getD]
  rw [e2]
  cases markC n E wl os fl (os.drop i) with
  | true=>exact ⟨fun h=>by simp at h,g.2⟩
  | false=>exact ⟨fun h=>by rw [←g.1];exact h,g.2⟩
theorem missed_ok {b wl:Nat}:∀ {os:List IOper} {fl:List (Bool×Bool)},(∀ i o os',os.drop i=o::os'→(fl.getD i (false,false)).2=true→b<wl∨∃ t b',tgtOf E o.op=some (t,b')∧b'≠b∧unset t (o::os')=true)→missed b E wl os fl=true
 | [],fl,h=>by cases fl<;>rfl
 | o::os,[],h=>rfl
 | o::os,f::fs,h=>by
   simp only [missed,Bool.and_eq_true]
   refine ⟨?_,missed_ok fun i o' os' h1 h2=>h (i+1) o' os' (by simpa using h1) (by simpa using h2)⟩
   cases hf:f.2 with
   | false=>rfl
   | true=>
     simp only [Bool.not_true,Bool.false_or,Bool.or_eq_true]
     rcases h 0 o os rfl (by simpa using hf) with h1 | ⟨t,b',h1,h2,h3⟩
     ·exact .inl (Nat.ble_eq_true_of_le h1)
     ·refine .inr ?_
      rw [h1]
      simp only [Bool.and_eq_true,Bool.not_eq_true',h3,and_true]
      exact beq_false h2
end
end Go.SX
end
section
set_option linter.unusedVariables false
set_option linter.unusedSimpArgs false
set_option linter.unusedSectionVars false
namespace Go.SX
open Go.AL
section
variable {m m':List Value} {H H':AH} {E E':Env} {C:Ctx} {tb:List (List Int)} {B:AH} {D:Bs} {s s':St}
theorem Sat.trans {d':Nat→Prop} {m0':Nat→Option Value} (hs:Sat tb B D m s E H) (h:Sat tb H ⟨d',m0'⟩ m' s' E' H') (hd:∀ id,d' id→Own m s.objs id):Sat tb B ⟨D.d,m0'⟩ m' s' E' H':=by
 refine ⟨h.obs,?_,h.env,⟨Nat.le_trans hs.fr.n h.fr.n,?_,?_⟩,h.fix,h.gl⟩
 ·intro id hid
  rcases h.own id hid with h1 | h1
  ·exact .inl (Nat.le_trans hs.fr.n h1)
  ·exact hs.own id (hd id h1)
 ·intro id hid hdd
  have:¬ d' id:=fun ho=>by
   rcases hs.own id (hd id ho) with h1 | h1
   ·omega
   ·exact hdd h1
  rw [h.fr.get id (Nat.lt_of_lt_of_le hid hs.fr.n) this]
  exact hs.fr.get id hid hdd
 ·intro x h1 h2 h3
  refine h.fr.wl x (hs.fr.wl x h1 h2 h3) (Nat.le_trans h2 hs.fr.n) fun id hid=>?_
  rcases hs.own id (hd id hid) with h4 | h4
  ·exact Nat.le_trans h2 h4
  ·exact h3 id h4
theorem Sat.kill (hs:Sat tb B D m s E H) {env':T SV} {objs':List Obj} (hl:objs'.length=s.objs.length) (hd:∀ (i:Nat) (o:Obj),objs'[i]?=some o→o=Obj.dead∨s.objs[i]?=some o)
  (he:∀ t x,env'.get t=some x→∃ w,E.get t=some w∧Den (Own m objs') m H x w):(∀ id,Own m objs' id→Own m s.objs id)∧Sat tb { H with wl:=H.n } ⟨Own m objs',fun _=>none⟩ m ⟨env',objs'⟩ E { H with wl:=H.n }:=by
 have hO:∀ id,Own m objs' id→Own m s.objs id:=by
  rintro id ⟨i,o,v,h1,h2,h3,h4⟩
  rcases hd i o h1 with h | h
  ·exact absurd h h2
  ·exact ⟨i,o,v,h,h2,h3,h4⟩
 refine ⟨hO,⟨by rw [hl];exact hs.obs.len,?_,?_⟩,fun id h=>.inr h,fun t x hx=>?_,⟨Nat.le_refl _,fun _ _ _=>rfl,fun x h _ _=>h⟩,fun i v h=>(by cases h),hs.gl⟩
 ·intro i o v h1 h2
  rcases hd i o h1 with rfl | h
  ·exact trivial
  ·exact ObjOk.same (H:=H) (H':={ H with wl:=H.n }) (fun id _ h=>hO id h) (Nat.le_refl _) (fun _ _ _=>rfl) (fun _ _=>rfl) (fun _ _ _ h=>h) (hs.obs.ok i o v h h2)
 ·intro i j o o' v v' id h1 h2 h3 h4 h5 h6 h7 h8
  rcases hd i o h1 with h | h
  ·exact absurd h h2
  ·rcases hd j o' h3 with g | g
   ·exact absurd g h4
   ·exact hs.obs.dis i j o o' v v' id h h2 g h4 h5 h6 h7 h8
 ·obtain ⟨w,e1,e2⟩:=he t x hx
  exact ⟨w,e1,e2.wl⟩
theorem Sat.back2 {d':Nat→Prop} {m0':Nat→Option Value} (hs:Sat tb B D m s E H) (h:Sat tb { H with wl:=H.n } ⟨d',m0'⟩ m' s' E' H') (hd:∀ id,d' id→Own m s.objs id) {y:Nat} (hy:min H.wl H'.wl≤y):Sat tb B ⟨D.d,m0'⟩ m' s' E' { H' with wl:=y }:=by
 have h1:Sat tb H ⟨d',m0'⟩ m' s' E' { H' with wl:=y }:=by
  refine ⟨⟨h.obs.len,fun i o v h1 h2=>ObjOk.same (H:=H') (H':={ H' with wl:=y }) (fun _ _ h=>h) (Nat.le_refl _) (fun _ _ _=>rfl) (fun _ _=>rfl) (fun _ _ _ h=>h) (h.obs.ok i o v h1 h2),h.obs.dis⟩,h.own,fun t x hx=>?_,⟨h.fr.n,h.fr.get,fun x h1 h2 h3=>?_⟩,h.fix,h.gl⟩
  ·obtain ⟨w,e1,e2⟩:=h.env t x hx
   exact ⟨w,e1,e2.wl⟩
  ·have:=h.fr.wl x h2 h2 h3
   show x≤y
   omega
 exact hs.trans h1 hd
theorem Sat.less (hs:Sat tb B D m s E H) (e:T SV) (he:leT s.objs.length e s.env):Sat tb B D m ⟨e,s.objs⟩ E H:=by
 refine ⟨hs.obs,hs.own,fun t x hx=>?_,hs.fr,hs.fix,hs.gl⟩
 obtain ⟨y,e1,e2⟩:=leT_get t he hx
 obtain ⟨w,e3,e4⟩:=hs.env t y e1
 have:=leV_ok (A':=Own m s.objs) e2 (fun _ h=>h) e4
 rw [←hs.obs.len,List.take_length] at this
 exact ⟨w,e3,this⟩
def nkN (R:St→Prop) (c:Ctl) (s:St):Prop:=match c with
 | .normal=>R s
 | _=>False
theorem cw_seqP {G:Sg} (hG:G=std C tb B D) {a b:IC} {Q:Ctl→Env→AH→Prop} (hs:Sat tb B D m s E H) (h:∀ P R:St→Prop,(P=fun s'=>∀ m E H,Sat tb B D m s' E H→Cw C b E H Q)→(∀ s',P s'→R s')→W G tb a s (nkN R)):Cw C (.seq a b) E H Q:=by
 subst hG
 refine Cw.seq ((W_ok (h _ _ rfl fun _ h=>h) hs).mono ?_)
 rintro c E' H' ⟨s',m',q1,q2⟩
 cases c with
 | normal=>exact q1 m' E' H' q2
 | exit id=>exact q1.elim
 | ret=>exact q1.elim
theorem lessP {b:IC} {Q:Ctl→Env→AH→Prop} {P:St→Prop} (hP:P=fun s'=>∀ m E H,Sat tb B D m s' E H→Cw C b E H Q) (e:T SV) (he:leT s.objs.length e s.env) (h:P ⟨e,s.objs⟩):P s:=by
 subst hP
 exact fun m E H hs=>h m E H (hs.less e he)
theorem cw_seq {G:Sg} (hG:G=std C tb B D) {a b:IC} {Q:Ctl→Env→AH→Prop} (hs:Sat tb B D m s E H) (h:∀ R:St→Prop,(∀ s',(∀ m E H,Sat tb B D m s' E H→Cw C b E H Q)→R s')→W G tb a s (nkN R)):Cw C (.seq a b) E H Q:=by
 subst hG
 refine Cw.seq ((W_ok (h _ fun _ h=>h) hs).mono ?_)
 rintro c E' H' ⟨s',m',q1,q2⟩
 cases c with
 | normal=>exact q1 m' E' H' q2
 | exit id=>exact q1.elim
 | ret=>exact q1.elim
end
end Go.SX
end
section
set_option linter.unusedSimpArgs false
set_option linter.unusedVariables false
set_option linter.unusedSectionVars false
namespace Go.AL
def closedE (ft:T FI) (ext:Nat→Option (List Value→AH→Option (Value×AH))) (G N f:Nat):List Value→AH→Option (Value×AH):=fun args H=>
 bif globOk H G&&args.all plainS then (match evF ft ext N f args (globH H G) with
  | some (v,_)=>bif plainS v then some (v,H) else none
  | none=>none) else none
theorem closedE_sim {P:Program} (hm:P.follows .mixedOrders=true) {ft:T FI} {ext:Nat→Option (List Value→AH→Option (Value×AH))} (hext:∀ f g,ext f=some g→SimG P f g) (hft:∀ f fi,ft.get f=some fi→cfunc P f=some fi) (N f:Nat):SimG P f (closedE ft ext P.globals.size N f):=by
 intro args H v H1 h
 unfold closedE at h
 rw [cond_eq_ite] at h
 split at h
 ·rename_i hok0
  simp only [Bool.and_eq_true] at hok0
  obtain ⟨hok,hpa⟩:=hok0
  split at h
  ·rename_i u Hu he
   rw [cond_eq_ite] at h
   split at h
   ·rename_i hpl
    simp only [Option.some.injEq,Prod.mk.injEq] at h
    obtain ⟨rfl,rfl⟩:=h
    have hF:SimF P (evF ft ext N):=evF_sim hm hft hext N
    obtain ⟨_,hfn,hc⟩:=hF f args _ _ _ he
    refine ⟨AP.refl _,hfn,?_⟩
    intro β w cargs hargs hr _
    obtain rfl:=plain_eqs hargs hpa
    have hsub:∀ id bk,(globH H P.globals.size).t.get id=some bk→id<P.globals.size∧H.t.get id=some bk:=by
     intro id bk hb
     simp only [globH,globsOf_get] at hb
     split at hb
     ·rename_i hlt;exact ⟨hlt,hb⟩
     ·cases hb
    have hr0:Rel P (fun id=>if id<P.globals.size then some ⟨id,0,0⟩ else none) (globH H P.globals.size) w:=by
     refine ⟨fun id bk hb=>(hsub id bk hb).1,Nat.le_refl _,fun g hg=>by rw [if_pos hg],?_,?_⟩
     ·intro id bi bk e1 e2
      obtain ⟨h1,h2⟩:=hsub id bk e2
      rw [if_pos h1] at e1
      cases e1
      obtain ⟨c,el,fz,g1,g2⟩:=hr.blk id ⟨id,0,0⟩ bk (hr.glob id h1) h2
      obtain ⟨k1,k2⟩:=globOk_get hok id bk h1 h2
      obtain ⟨rest,cs,p1,p2⟩:=g2.pre
      have hcs:cs=bk.cells:=plain_eqs p2 k2
      exact ⟨c,el,fz,g1,⟨⟨rest,bk.cells,by rw [←hcs];exact p1,VRs.plain k2⟩,fun h=>absurd k1 h,fun s hs=>by omega⟩⟩
     ·intro i j bi bj ki kj e1 e2 e3 e4 e5 e6
      obtain ⟨h1,h2⟩:=hsub i ki e1
      obtain ⟨h3,h4⟩:=hsub j kj e2
      rw [if_pos h1] at e3
      rw [if_pos h3] at e4
      cases e3;cases e4
      exact e5
    refine (hc _ w cargs (VRs.plain hpa) hr0 (fun id h1 _=>by
     have:P.globals.size≤id:=h1
     show (if id<P.globals.size then some (⟨id,0,0⟩:BI) else none)=none
     rw [if_neg (by omega)])).mono ?_
    rintro e w' ⟨β',v',rfl,hvr,hp⟩
    have hsame:∀ k,k<w.heap.size→w'.heap[k]?=w.heap[k]?:=fun k hk=>hp.frame k hk fun id bi bk h1 h2 _=>by
     obtain ⟨h3,h4⟩:=hsub id bk h1
     exact absurd (globOk_get hok id bk h3 h4).1 h2
    obtain rfl:=plain_eq1 hvr hpl
    refine ⟨β,v',rfl,?_,⟨BM.le.refl β,fun _ _=>rfl,⟨hr.lt,hr.glt,hr.glob,fun id bi bk e1 e2=>?_,hr.inj⟩,hp.size,fun b hb _=>hsame b hb,fun id bi e1 e2=>(by rw [e1] at e2;cases e2),hp.os,hp.tape,hp.output⟩⟩
    ·have:=VRs.plain (β:=β) (vs:=[v']) (by simp [hpl])
     cases this;assumption
    ·obtain ⟨c,el,fz,g1,g2⟩:=hr.blk id bi bk e1 e2
     exact ⟨c,el,fz,by rw [hsame bi.b (Array.getElem?_eq_some_iff.1 g1).1];exact g1,g2⟩
   ·cases h
  ·cases h
 ·cases h
def trueR:Option (Value×AH)→Bool
 | some (.bool true,_)=>true
 | _=>false
end Go.AL
namespace Go.SX
open Go.AL
theorem gl_glob {tb:List (List Int)} {H:AH} (h:Gl tb H):globOk H tb.length=true:=by
 have:∀ n,n≤tb.length→globOk H n=true:=by
  intro n
  induction n with
  | zero=>intro _;rfl
  | succ n ih=>
    intro hn
    obtain ⟨l,hl⟩:∃ l,tb[n]?=some l:=⟨tb[n],List.getElem?_eq_getElem (by omega)⟩
    have:=(h n l hl).2
    simp only [globOk,this,Bool.and_eq_true]
    refine ⟨⟨rfl,?_⟩,ih (by omega)⟩
    rw [List.all_eq_true]
    intro x hx
    obtain ⟨y,_,rfl⟩:=List.mem_map.1 hx
    rfl
 exact this _ (Nat.le_refl _)
theorem globsOf_ext {H H':AH}:∀ {n:Nat},(∀ g,g<n→H.t.get g=H'.t.get g)→globsOf H n=globsOf H' n
 | 0,_=>rfl
 | n+1,h=>by
   simp only [globsOf,h n (Nat.lt_succ_self n),globsOf_ext (n:=n) fun g hg=>h g (by omega)]
theorem closed_true {C:Ctx} {tb:List (List Int)} {k N:Nat} {ft:T FI} {ext:Nat→Option (List Value→AH→Option (Value×AH))} {H0:AH} (h0:H0.n=tb.length∧H0.wl=tb.length) (hH:Gl tb H0) (ht:globsOf H0 tb.length=H0.t) (hx:C.ext k=some (closedE ft ext tb.length N k)) (hr:trueR (evF ft ext N k [] H0)=true):FvC C tb (.f k [] []) [] [] (RB true):=by
 intro H m vf vs ho hgl hdf hda
 simp only [Den,DenL] at hdf hda
 obtain ⟨vf',vc,rfl,rfl,rfl⟩:=hdf
 subst hda
 refine ⟨k,[],[],rfl,?_⟩
 have e:globH H tb.length=H0:=by
  have:globsOf H tb.length=globsOf H0 tb.length:=globsOf_ext fun g hg=>by
   obtain ⟨l,hl⟩:∃ l,tb[g]?=some l:=⟨tb[g],List.getElem?_eq_getElem hg⟩
   rw [(hgl g l hl).2,(hH g l hl).2]
  obtain ⟨t,n,wl⟩:=H0
  unfold globH
  rw [this,ht]
  obtain ⟨rfl,rfl⟩:=h0
  rfl
 have hev:closedE ft ext tb.length N k [] H=some (.bool true,H):=by
  unfold closedE
  rw [gl_glob hgl,e]
  cases hc:evF ft ext N k [] H0 with
  | none=>rw [hc] at hr;cases hr
  | some p=>
    obtain ⟨v,H1⟩:=p
    rw [hc] at hr
    have:v=.bool true:=by unfold trueR at hr;split at hr;· rename_i h;cases h;rfl
                          ·cases hr
    subst this
    rfl
 refine Run.ext hx hev ⟨m,.b true,[],⟨true,rfl,rfl,rfl⟩,ho,rfl,rfl,fun id h=>.inr h,⟨Nat.le_refl _,fun _ _ _=>rfl,fun x h _ _=>h⟩⟩
end Go.SX
end
section
set_option linter.unusedSimpArgs false
set_option linter.unusedVariables false
set_option linter.unusedSectionVars false
namespace Go.AL
section
variable {C:Ctx} {K:CatIR} {B:BackIR} {g:Nat} {E0 E:Env} {H:AH} {Q:Bool→AH→Prop}
def Yw (C:Ctx) (K:CatIR) (E:Env) (v x:Value) (H:AH) (Q:Bool→AH→Prop):Prop:=∃ n b H',bodyY (evF C.ft C.ext n) n K.p1 K.p2 K.iasg K.ibody E v x H=some (b,H')∧Q b H'
theorem Yw.intro {v x:Value} (h:Cw C K.iasg (AL.put (AL.put E (some K.p1) v) (some K.p2) x) H fun c E1 H1=>c=.normal∧Cw C K.ibody E1 H1 fun c E2 H2=>(c=.normal∧Q true H2)∨(c=.ret∧Q false H2)):Yw C K E v x H Q:=by
 obtain ⟨n,c,E1,H1,h1,rfl,m,c2,E2,H2,h2,h3⟩:=h
 have a:=evC_mono (evF_mono (ft:=C.ft) (ext:=C.ext) (Nat.le_max_left n m)) (Nat.le_max_left n m) h1
 have b:=evC_mono (evF_mono (ft:=C.ft) (ext:=C.ext) (Nat.le_max_right n m)) (Nat.le_max_right n m) h2
 rcases h3 with ⟨rfl,h3⟩ | ⟨rfl,h3⟩
 ·exact ⟨max n m,true,H2,by unfold bodyY;rw [a];simp only;rw [b],h3⟩
 ·exact ⟨max n m,false,H2,by unfold bodyY;rw [a];simp only;rw [b],h3⟩
def Bl (C:Ctx) (K:CatIR) (B:BackIR) (E0 E:Env) (H:AH) (Q:Bool→AH→Prop):Prop:=∃ n r,backLoop (evF C.ft C.ext n) B (bodyY (evF C.ft C.ext n) n K.p1 K.p2 K.iasg K.ibody E0) n E H=some r∧Q r.1 r.2
theorem Bl.done (h:Ow C B.i1 E H fun E1 H1 _=>E1.get 8=some (.bool false)∧Q true H1):Bl C K B E0 E H Q:=by
 obtain ⟨n,E1,H1,fl,h1,h2,h3⟩:=h
 refine ⟨n+1,(true,H1),?_,h3⟩
 simp only [backLoop,evOps_mono (evF_mono (Nat.le_succ n)) h1,h2]
theorem Bl.step (h:Ow C B.i1 E H fun E1 H1 _=>E1.get 8=some (.bool true)∧Ow C B.iA (AL.put E1 (some 11) (.chan none)) H1 fun E2 H2 _=>∃ v x,E2.get 12=some v∧E2.get 16=some x ∧
  Yw C K E0 v x H2 fun b H3=>Ow C B.iB (AL.put E2 (some 17) (.bool b)) H3 fun E4 H4 _=>(b=false∧E4.get 18=some (.bool true)∧Q false H4)∨(b=true∧E4.get 18=some (.bool false)∧Ow C B.iD E4 H4 fun E5 H5 _=>Bl C K B E0 E5 H5 Q)):Bl C K B E0 E H Q:=by
 obtain ⟨n1,E1,H1,fl1,h1,h8,n2,E2,H2,fl2,h2,v,x,h12,h16,n3,b,H3,h3,n4,E4,H4,fl4,h4,h5⟩:=h
 rcases h5 with ⟨rfl,h18,hq⟩ | ⟨rfl,h18,n5,E5,H5,fl5,h5,n6,r,h6,hq⟩
 ·obtain ⟨N,hN1,hN2,hN3,hN4⟩:∃ N,n1≤N+1∧n2≤N+1∧n3≤N+1∧n4≤N+1:=⟨n1+n2+n3+n4,by omega,by omega,by omega,by omega⟩
  refine ⟨N+1,(false,H4),?_,hq⟩
  simp only [backLoop,evOps_mono (evF_mono hN1) h1,h8,evOps_mono (evF_mono hN2) h2,h12,h16,bodyY_mono (evF_mono hN3) hN3 h3,evOps_mono (evF_mono hN4) h4,h18,cond_false]
 ·obtain ⟨N,hN1,hN2,hN3,hN4,hN5,hN6⟩:∃ N,n1≤N+1∧n2≤N+1∧n3≤N+1∧n4≤N+1∧n5≤N+1∧n6≤N:=⟨n1+n2+n3+n4+n5+n6,by omega,by omega,by omega,by omega,by omega,by omega⟩
  refine ⟨N+1,r,?_,hq⟩
  simp only [backLoop,evOps_mono (evF_mono hN1) h1,h8,evOps_mono (evF_mono hN2) h2,h12,h16,bodyY_mono (evF_mono hN3) hN3 h3,evOps_mono (evF_mono hN4) h4,h18,cond_true,evOps_mono (evF_mono hN5) h5]
  exact backLoop_mono (evF_mono (by omega)) (fun v x H r hr=>bodyY_mono (evF_mono (by omega)) (by omega) hr) hN6 h6
def Rg (C:Ctx) (K:CatIR) (B:BackIR) (g:Nat) (E:Env) (H:AH) (Q:Bool→AH→Prop):Prop:=∃ n r,rangeEv (evF C.ft C.ext n) n n K.t K.p1 K.p2 g B K.iasg K.ibody E H=some r∧Q r.1 r.2
theorem Rg.intro {cap:Value} (ht:E.get K.t=some (.func (.func g) ⟨[]⟩ ⟨[cap]⟩)) (h:Ow C B.i0 (envOf [.chan none,cap] 0) H fun E1 H1 _=>Bl C K B E E1 H1 Q):Rg C K B g E H Q:=by
 obtain ⟨n,E1,H1,fl,h1,m,r,h2,h3⟩:=h
 have hn:=Nat.le_max_left n m
 have hm:=Nat.le_max_right n m
 refine ⟨max n m,r,?_,h3⟩
 unfold rangeEv
 rw [ht]
 simp only [Nat.beq_refl,cond_true,backRun,evOps_mono (evF_mono hn) h1]
 exact backLoop_mono (evF_mono hm) (fun v x H r hr=>bodyY_mono (evF_mono hm) hm hr) hm h2
def Fin (K:CatIR) (Q:Value→AH→Prop) (E:Env) (H:AH):Prop:=∃ vs,resOf E H K.res=some vs∧Q (tupled vs) H
theorem Fin.eq {Q:Value→AH→Prop} (h:Fin K Q E H):∃ v,catFin K E H=some (v,H)∧Q v H:=by
 obtain ⟨vs,h1,h2⟩:=h
 exact ⟨_,by unfold catFin;rw [h1],h2⟩
theorem cat_intro {args:List Value} {Q:Value→AH→Prop} (h:Cw C K.iA (envOf args 0) H fun c E1 H1=>c=.normal∧Cw C K.iX E1 H1 fun c E2 H2=>(c=.ret∧Fin K Q E2 H2)∨(c=.normal∧Cw C K.iD E2 H2 fun c E3 H3=>c=.normal∧Cw C K.iE E3 H3 fun c E4 H4=>c=.normal ∧
  Rg C K B g E4 H4 fun b H5=>(b=true∧Cw C K.iG E4 H5 fun c E6 H6=>c=.ret∧Fin K Q E6 H6)∨(b=false∧Fin K Q E4 H5))):∃ n v H',catEv (evF C.ft C.ext n) n n g B K args H=some (v,H')∧Q v H':=by
 obtain ⟨n1,c1,E1,H1,h1,rfl,n2,c2,E2,H2,h2,h⟩:=h
 rcases h with ⟨rfl,h⟩ | ⟨rfl,n3,c3,E3,H3,h3,rfl,n4,c4,E4,H4,h4,rfl,n5,⟨b,H5⟩,h5,h⟩
 ·obtain ⟨v,hv,hq⟩:=h.eq
  refine ⟨max n1 n2,v,H2,?_,hq⟩
  unfold catEv
  rw [evC_mono (evF_mono (Nat.le_max_left n1 n2)) (Nat.le_max_left n1 n2) h1]
  simp only
  rw [evC_mono (evF_mono (Nat.le_max_right n1 n2)) (Nat.le_max_right n1 n2) h2]
  exact hv
 ·rcases h with ⟨hb,n6,c6,E6,H6,h6,rfl,h⟩ | ⟨hb,h⟩
  ·obtain ⟨v,hv,hq⟩:=h.eq
   obtain ⟨N,l1,l2,l3,l4,l5,l6⟩:∃ N,n1≤N∧n2≤N∧n3≤N∧n4≤N∧n5≤N∧n6≤N:=⟨n1+n2+n3+n4+n5+n6,by omega,by omega,by omega,by omega,by omega,by omega⟩
   refine ⟨N,v,H6,?_,hq⟩
   subst hb
   unfold catEv
   simp only [evC_mono (evF_mono l1) l1 h1,evC_mono (evF_mono l2) l2 h2,evC_mono (evF_mono l3) l3 h3,evC_mono (evF_mono l4) l4 h4,rangeEv_mono (evF_mono l5) l5 h5,evC_mono (evF_mono l6) l6 h6]
   exact hv
  ·obtain ⟨v,hv,hq⟩:=h.eq
   obtain ⟨N,l1,l2,l3,l4,l5⟩:∃ N,n1≤N∧n2≤N∧n3≤N∧n4≤N∧n5≤N:=⟨n1+n2+n3+n4+n5,by omega,by omega,by omega,by omega,by omega⟩
   refine ⟨N,v,H5,?_,hq⟩
   subst hb
   unfold catEv
   simp only [evC_mono (evF_mono l1) l1 h1,evC_mono (evF_mono l2) l2 h2,evC_mono (evF_mono l3) l3 h3,evC_mono (evF_mono l4) l4 h4,rangeEv_mono (evF_mono l5) l5 h5]
   exact hv
end
end Go.AL
namespace Go.SX
open Go.AL
section
variable {m m':List Value} {H H':AH} {E E':Env} {C:Ctx} {tb:List (List Int)} {B:AH} {D:Bs} {s s':St}
theorem Sat.noFix (hs:Sat tb B D m s E H):Sat tb B ⟨D.d,fun _=>none⟩ m s E H:=⟨hs.obs,hs.own,hs.env,hs.fr,(fun i v h=>by cases h),hs.gl⟩
theorem Sat.leD (hs:Sat tb B D m s E H) (h:Le s s') (hf:∀ i v,D.m0 i=some v→∃ cs,s'.objs[i]?=some (.x cs)):Sat tb B D (m.take s'.objs.length) s' E H:=by
 have:=hs.noFix.le h
 refine ⟨this.obs,this.own,this.env,this.fr,fun i v hv=>?_,this.gl⟩
 obtain ⟨cs,hc⟩:=hf i v hv
 refine ⟨?_,cs,hc⟩
 rw [List.getElem?_take,if_pos (List.getElem?_eq_some_iff.1 hc).1]
 exact (hs.fix i v hv).1
theorem Sat.reEnv (hs:Sat tb B D m s E H) {e:T SV} {E':Env} (he:∀ t x,e.get t=some x→∃ w,E'.get t=some w∧Den (Own m s.objs) m H x w):Sat tb B D m ⟨e,s.objs⟩ E' H:=⟨hs.obs,hs.own,he,hs.fr,hs.fix,hs.gl⟩
theorem Sat.old (hs:Sat tb B D m s E H) {x:SV} {w:Value} (hx:∀ j,men j x=false) (hd:Den D.d [] B x w):Den (Own m s.objs) m H x w:=
 hd.mono (fun id h1 h2=>(hs.own id h2).resolve_left (Nat.not_le.2 h1)) hs.fr.n (fun id h1 h2=>hs.fr.get id h1 h2) x w (fun j v hj=>by rw [hx j] at hj;cases hj)
theorem ObjOk.lt {A:Nat→Prop} {w:Value} {o:Obj} {id:Nat} (h:ObjOk A m H w o) (hd:o≠.dead) (hb:blkOf w=some id):id<H.n:=by
 have sl:∀ {cs:List Value},OwS H w cs→id<H.n:=fun h=>by
  rcases h with ⟨rfl,_⟩ | ⟨id',c,kd,rfl,_,h3,_⟩
  ·cases hb
  ·cases hb;exact h3
 cases o with
 | dead=>exact absurd rfl hd
 | e=>obtain ⟨id',rfl,h1,_⟩:=h;cases hb;exact h1
 | u l=>exact sl h
 | b l=>exact sl h
 | x cs=>obtain ⟨id',vs,rfl,h1,_⟩:=h;cases hb;exact h1
theorem Sat.new (hs:Sat tb B D m s E H) (b:Blk):Sat tb B D m s E (H.new b):=by
 have hn:H.n≤(H.new b).n:=Nat.le_succ _
 have hg:∀ id,id<H.n→(H.new b).t.get id=H.t.get id:=fun id h=>T.get_set_ne _ _ (Nat.ne_of_lt h)
 refine ⟨⟨hs.obs.len,fun i o v h1 h2=>?_,hs.obs.dis⟩,hs.own,fun t x hx=>?_,⟨Nat.le_trans hs.fr.n hn,fun id h1 h2=>?_,hs.fr.wl⟩,hs.fix,fun k l hk=>?_⟩
 ·by_cases hd:o=.dead
  ·subst hd;exact trivial
  ·exact ObjOk.same (H:=H) (fun _ _ h=>h) hn (fun id h _=>hg id h) (fun id h=>hg id ((hs.obs.ok i o v h1 h2).lt hd h)) (fun _ _ _ h=>h) (hs.obs.ok i o v h1 h2)
 ·obtain ⟨w,e1,e2⟩:=hs.env t x hx
  exact ⟨w,e1,e2.mono (fun _ _ h=>h) hn (fun id h _=>hg id h) x w (fun _ _ _ h=>h)⟩
 ·rw [hg id (Nat.lt_of_lt_of_le h1 hs.fr.n)];exact hs.fr.get id h1 h2
 ·obtain ⟨h1,h2⟩:=hs.gl k l hk
  exact ⟨Nat.lt_of_lt_of_le h1 hn,by rw [hg k h1];exact h2⟩
end
end Go.SX
namespace Go.SX
open Go.AL
theorem sws_le {C:Ctx} {tb:List (List Int)} {B:AH} {d:Nat→Prop} {s s':St} {ic:IC} {k:Ctl→St→Prop} (hl:Le s s') (h:SWs C tb B ⟨d,fun _=>none⟩ ic s' k):SWs C tb B ⟨d,fun _=>none⟩ ic s k:=
 fun m E H hs=>h _ E H (hs.le hl)
end Go.SX
end
