/- An interpreter of Go code over a heap of its own, and the proof that the model does what it does (part b). -/
import Derived.Test.YtdgbdkfoeaollaaGreatDoorALa
import Derived.Tactics
import Derived.Orders
import Derived.LoopN
import Derived.Below
section
set_option linter.unusedSimpArgs false
set_option linter.unusedVariables false
set_option maxHeartbeats 1000000
namespace Go.AL
section
variable {P:Program} {β:BM} {E:Env} {a:Act} {H:AH} {w:World}
def HSim (P:Program) (β:BM) (H:AH) (w:World) (s:Sem Value) (v:Value) (H1:AH):Prop:=
 ∃ v' w' β',s.run P w=.ok v' w'∧VR β' v v'∧Post P β H w β' H1 w'
def grown (β:BM) (n:Nat) (bi:BI):BM:=fun i=>if i=n then some bi else β i
theorem grown_self {n:Nat} {bi:BI}:grown β n bi n=some bi:=if_pos rfl
theorem BR.new {vs:List Value} {c:Array Value} {bi:BI} (h:VRs β vs c.toList):BR β ⟨vs,0⟩ bi c (0,0):=
 ⟨⟨[],c.toList,by simp,h⟩,fun _=>rfl,fun s hs=>by cases hs⟩
theorem newRow_sim {vs:List Value} {c:Array Value} {t:TypeId} (h:Rel P β H w) (hn:β H.n=none) (hv:VRs β vs c.toList) :
  ∃ w',(newRow t c).run P w=.ok ⟨w.heap.size,0,none⟩ w'∧Post P β H w (grown β H.n ⟨w.heap.size,0,0⟩) (H.new ⟨vs,0⟩) w':=
 ⟨w.alloc (.cells c t),by simp [newRow],Post.new (bi:=⟨w.heap.size,0,0⟩) h hn rfl rfl rfl rfl rfl (BR.new hv)⟩
theorem alloc_sim {e:TypeId} {z:List Value} (hz:zeroOf P e=some z) (h:Rel P β H w) (hn:β H.n=none) :
  HSim P β H w (Instr.alloc e true (.tuple #[])) (.pointer (some ⟨H.n,0,none⟩)) (H.new ⟨z,0⟩):=by
 obtain ⟨i,v,hi,hiz,rfl,hp⟩:=zeroOf_some hz
 obtain ⟨w',h1,h2⟩:=newRow_sim (t:=e) (c:=v.cells) h hn (by rw [cells_toList];exact VRs.plain hp)
 exact ⟨_,w',_,by simp [Instr.alloc,zeroValue,typeInfo,hi,hiz,newVar,h1],.ptr 0 grown_self,h2⟩
theorem box_sim {e:TypeId} {v u:Value} (hj:junk v=false) (hv:VR β v u) (h:Rel P β H w) (hn:β H.n=none) :
  HSim P β H w (Instr.box e u) (.pointer (some ⟨H.n,0,none⟩)) (H.new ⟨cellsOf v,0⟩):=by
 obtain ⟨w',h1,h2⟩:=newRow_sim (t:=e) (c:=u.cells) h hn (hv.cellsOf hj)
 exact ⟨_,w',_,by simp [Instr.box,newVar,h1],.ptr 0 grown_self,h2⟩
theorem made_rel {v:Value} {n:Nat} (hp:(cellsOf v).all plainS=true) (hl:0<(cellsOf v).length) :
  VRs β ((List.range n).map fun i=>(cellsOf v).getD (i % (cellsOf v).length) (.tuple ⟨[]⟩)) (madeCells v.cells n).toList:=by
 have e:(madeCells v.cells n).toList=(List.range n).map fun i=>(cellsOf v).getD (i % (cellsOf v).length) (.tuple ⟨[]⟩):=by
  have hs:v.cells.size=(cellsOf v).length:=by rw [←cells_toList];simp
  simp only [madeCells,Array.toList_map,Array.toList_range,hs]
  refine List.map_congr_left fun i _=>?_
  have hlt:i % (cellsOf v).length<(cellsOf v).length:=Nat.mod_lt _ hl
  rw [Array.getElem!_eq_getD,Array.getD_eq_getD_getElem?,List.getD_eq_getElem?_getD,←cells_toList,Array.getElem?_toList]
  have hlt2:i % v.cells.toList.length<v.cells.size:=by rw [cells_toList,hs];exact hlt
  rw [Array.getElem?_eq_getElem hlt2]
  rfl
 rw [e]
 refine VRs.plain ?_
 rw [List.all_eq_true]
 intro x hx
 obtain ⟨i,_,rfl⟩:=List.mem_map.1 hx
 have hlt:i % (cellsOf v).length<(cellsOf v).length:=Nat.mod_lt _ hl
 rw [List.getD_eq_getElem?_getD,List.getElem?_eq_getElem hlt]
 exact List.all_eq_true.1 hp _ (List.getElem_mem hlt)
theorem make_sim {t e:TypeId} {i:TypeInfo} {z:List Value} {k k':IntKind} {l c:Int} (ht:P.underlying t=some (.slice e)) (hi:P.info? e=some i) (hz:zeroOf P e=some z)
  (hb:i.bytes≤128) (hzl:z.length=i.size) (hpos:0<i.size) (h0:0≤l) (hlc:l≤c) (hc:c≤2^40) (h:Rel P β H w) (hn:β H.n=none) :
  HSim P β H w (Instr.makeSlice t (.int k l) (.int k' c)) (.slice (some ⟨H.n,0,none⟩) l.toNat c.toNat) (H.new ⟨(List.range (c.toNat*i.size)).map fun j=>z.getD (j % i.size) (.tuple ⟨[]⟩),0⟩):=by
 obtain ⟨i',v,hi',hiz,rfl,hp⟩:=zeroOf_some hz
 rw [hi] at hi';cases hi'
 have h48:(i.bytes:Int)*c≤281474976710656:=by
  have h1:(i.bytes:Int)*c≤128*c:=Int.mul_le_mul_of_nonneg_right (by omega) (by omega)
  omega
 have hrun:=run_make (P:=P) w t e i v ht hi hiz k k' l c h0 hlc h48 (by omega)
 have hcap:c.toNat<UC:=by unfold UC;omega
 refine ⟨_,_,grown β H.n ⟨w.heap.size,0,0⟩,hrun,?_,?_⟩
 ·exact .sl (bi:=⟨w.heap.size,0,0⟩) 0 l.toNat c.toNat grown_self (by omega) hcap
 ·have hm:=made_rel (β:=β) (v:=v) (n:=c.toNat*i.size) hp (by omega)
  rw [hzl] at hm
  exact Post.new (bi:=⟨w.heap.size,0,0⟩) h hn rfl rfl rfl rfl rfl (BR.new hm)
theorem nextslicecap_le {n c:Nat} (h:c<n):Builtin.nextslicecap n c≤2*n+512:=by
 have gb:∀ (r c:Nat),c≤2*n+512→Builtin.growBy n r c≤2*n+512:=by
  intro r
  induction r with
  | zero=>intro c h;exact h
  | succ r ih=>
    intro c h
    unfold Builtin.growBy
    split
    ·exact h
    ·exact ih _ (by omega)
 unfold Builtin.nextslicecap
 split
 ·omega
 ·split
  ·omega
  ·exact gb 4 c (by omega)
theorem slice_cells {ad:Option Addr} {len cap n:Nat} {u:Value} {cs:List Value} (hu:VR β (.slice ad len cap) u) (h:Rel P β H w) (hr:rdSlice H n ad=some cs) (hln:n≠0→len≠0) :
  ∃ a' c',u=.slice a' len c'∧len≤c'∧∃ ds,VRs β cs ds∧ds.length=n∧(∀ b,a'=some b→∀ j v,ds[j]?=some v→w.cell? (b.add j)=some v)∧(a'=none→ds=[]∧len=0∧c'=0):=by
 cases ad with
 | none=>
   obtain ⟨rfl,rfl,hu'⟩:=hu.slice_none
   obtain ⟨rfl,rfl⟩:=rdSlice_none hr
   exact ⟨none,0,hu',Nat.le_refl _,[],.nil,rfl,(fun b hb=>by cases hb),fun _=>⟨rfl,rfl,rfl⟩⟩
 | some ad=>
   rcases rdSlice_some hr with ⟨rfl,rfl⟩ | ⟨hn,bk,hb,ht⟩
   ·cases hu.slice_inv with
    | sl bi hs hβ hl hc hu=>exact ⟨_,_,hu,hl,[],.nil,rfl,fun b hb j v hv=>by simp at hv,fun hh=>by cases hh⟩
    | slu bi c hs hβ hc hl ht hu=>exact ⟨_,_,hu,hl,[],.nil,rfl,fun b hb j v hv=>by simp at hv,fun hh=>by cases hh⟩
    | sle bi o' c hs hβ hc hl ho hu'=>subst hl;exact ⟨_,_,hu',Nat.zero_le _,[],.nil,rfl,fun b hb j v hv=>by simp at hv,fun hh=>by cases hh⟩
    | sl0 a' hs hl hc hu'=>subst hl;exact ⟨_,_,hu',Nat.zero_le _,[],.nil,rfl,fun b hb j v hv=>by simp at hv,fun hh=>by cases hh⟩
   ·cases hu.slice_inv with
    | sl bi hs hβ hl hc hu=>
      obtain ⟨ds,d1,d2,d3⟩:=blk_cell h hβ hb ht
      exact ⟨_,_,hu,hl,ds,d1,d2,fun b hb j v hv=>by cases hb;exact d3 j v hv,fun hh=>by cases hh⟩
    | slu bi c hs hβ hc hl ht' hu=>
      obtain ⟨ds,d1,d2,d3⟩:=blk_cell h hβ hb ht
      exact ⟨_,_,hu,hl,ds,d1,d2,fun b hb j v hv=>by cases hb;exact d3 j v hv,fun hh=>by cases hh⟩
    | sle bi o' c hs hβ hc hl ho hu'=>exact absurd hl (hln hn)
    | sl0 a' hs hl hc hu'=>exact absurd hl (hln hn)
theorem zeroCells_size (z:Array Value) (n:Nat):(Builtin.zeroCells z n).size=n*z.size:=by simp [Builtin.zeroCells]
theorem append_grow {t tx ty e:TypeId} {i:TypeInfo} {z:List Value} {ad:Option Addr} {u x:Value} {len cap xlen xc:Nat} {xa:Option Addr} {old new:List Value}
  (ht:P.underlying t=some (.slice e)) (htx:∃ e',P.underlying tx=some (.slice e')) (hi:P.info? e=some i) (hz:zeroOf P e=some z) (hb:i.bytes≤128) (hzl:z.length=i.size) (hpos:0<i.size)
  (hu:VR β (.slice ad len cap) u) (hx:VR β (.slice xa xlen xc) x) (h:Rel P β H w) (hn:β H.n=none) (hxl:xlen≠0)
  (hro:rdSlice H (len*i.size) ad=some old) (hrn:rdSlice H (xlen*i.size) xa=some new) (hsc:new.all scalar=true) (hlt:len+xlen<2^36) (hcap:∀ a' c',u=.slice a' len c'→c'<len+xlen) :
  ∃ v' w' c el,(Builtin.append_ #[t,tx] ty #[u,x]).run P w=.ok v' w'∧w'.heap=w.heap.push (.cells c e (0,0))∧w'.os=w.os∧w'.tape=w.tape∧w'.output=w.output ∧
    v'=.slice (some ⟨w.heap.size,0,none⟩) (len+xlen) el∧len+xlen≤el∧c.size=el*i.size∧∃ rest ds,c.toList=ds++rest∧VRs β (old++new) ds:=by
 obtain ⟨a',c',rfl,hl',ds,d1,d2,d3,d4⟩:=slice_cells hu h hro (fun hh hh2=>hh (by rw [hh2];simp))
 obtain ⟨xa',xc',rfl,hxl',ns,n1,n2,n3,n4⟩:=slice_cells hx h hrn (fun _=>hxl)
 obtain ⟨i',zv,hi',hiz,rfl,hp⟩:=zeroOf_some hz
 rw [hi] at hi';cases hi'
 obtain ⟨e',htx⟩:=htx
 have hone:∀ u∈ns,u.oneCell'=true:=n1.oneCell hsc
 have hxsrc:Src P i.size tx (.slice xa' xlen xc') xlen ns w:=by
  cases xa' with
  | none=>exact absurd (n4 rfl).2.1 hxl
  | some b=>exact Src.ofSlice w htx b xlen xc' ns n2 (n3 b rfl) hone
 have hold:(Builtin.firstCells i.size len (.slice a' len c')).run P w.drew=.ok ds.toArray w.drew:=by
  cases a' with
  | none=>obtain ⟨e1,e2,_⟩:=d4 rfl;subst e1;exact run_firstCells_none w.drew i.size len len c'
  | some b=>exact run_firstCells_some w.drew i.size len b len c' ds d2 (fun j v hv=>by simpa using d3 b rfl j v hv)
 have hg:=hcap _ _ rfl
 have hns:Builtin.nextslicecap (len+xlen) c'*i.bytes≤281474976710656:=by
  have h1:=nextslicecap_le hg
  have h2:Builtin.nextslicecap (len+xlen) c'*i.bytes≤(2*(len+xlen)+512)*128:=Nat.mul_le_mul h1 hb
  refine Nat.le_trans h2 ?_
  clear h1 h2 hg hxsrc hold hone
  have h3:len+xlen<68719476736:=hlt
  omega
 have hr:=run_append_grow_src (P:=P) w t tx ty e i zv ht hi hiz a' len c' ds hold (.slice xa' xlen xc') xlen ns hxsrc hg (by omega) hns
 have hge:len+xlen≤grownCap w (len+xlen) c' e:=Nat.le_add_right _ _
 refine ⟨_,_,_,grownCap w (len+xlen) c' e,hr,rfl,rfl,rfl,rfl,rfl,hge,?_,?_⟩
 ·have hzs:zv.cells.size=i.size:=by rw [←hzl,←cells_toList];simp
  rw [Array.size_append,zeroCells_size,hzs]
  simp only [List.size_toArray,List.length_append,d2,n2]
  rw [←Nat.add_mul,←Nat.add_mul,Nat.add_sub_cancel' hge]
 ·exact ⟨(Builtin.zeroCells zv.cells (grownCap w (len+xlen) c' e-(len+xlen))).toList,ds++ns,by rw [Array.toList_append],VRs.append d1 n1⟩
theorem beq_ne0 {n:Nat} (h:¬ (n.beq 0)=true):n≠0:=fun e=>by subst e;exact h rfl
theorem append_sim {t tx ty e:TypeId} {i:TypeInfo} {z:List Value} {X Y:Operand} {v:Value} {H1:AH} {bb:Nat}
  (ht:P.underlying t=some (.slice e)) (htx:∃ e',P.underlying tx=some (.slice e')) (hi:P.info? e=some i) (hz:zeroOf P e=some z) (hb:i.bytes≤128) (hzl:z.length=i.size) (hpos:0<i.size)
  (hX:Ok1 β E a X) (hY:Ok1 β E a Y) (hp:hop E H (.append i.size bb X Y)=some (v,H1)) (h:Rel P β H w) (hn:∀ id,H.n≤id→id<H1.n→β id=none) :
  HSim P β H w (Builtin.append_ #[t,tx] ty #[a.eval X,a.eval Y]) v H1:=by
 simp only [hop] at hp
 split at hp
 ·rename_i ad len cap xa xlen xc h1 h2
  have hu:=hX _ h1
  have hx:=hY _ h2
  simp only [cond_eq_ite] at hp
  split at hp
  ·
   rename_i h0
   have h0:=Nat.eq_of_beq_eq_true h0
   subst h0
   simp only [Option.some.injEq,Prod.mk.injEq] at hp
   obtain ⟨rfl,rfl⟩:=hp
   obtain ⟨a',c',hue,hl',_⟩:=slice_cells (n:=0) (cs:=[]) hu h (by cases ad<;>rfl) (fun hh=>absurd rfl hh)
   obtain ⟨xa',xc',hxe,hxl',_⟩:=slice_cells (n:=0) (cs:=[]) hx h (by cases xa<;>rfl) (fun hh=>absurd rfl hh)
   obtain ⟨e',htx⟩:=htx
   have hsrc:Src P i.size tx (a.eval Y) 0 [] w:=by
    rw [hxe]
    cases xa' with
    | none=>exact Src.ofNil w htx xc'
    | some b=>exact Src.ofSlice w htx b 0 xc' [] (by simp) (fun j u hh=>by simp at hh) (fun u hh=>by cases hh)
   refine ⟨a.eval X,w,β,?_,hu,Post.refl h⟩
   have:=run_append_nothing (P:=P) w t tx ty e i ht hi a' len c' hl' (a.eval Y) hsrc
   rw [hue]
   exact this
  ·rename_i h0
   have hxl:=beq_ne0 h0
   split at hp
   ·cases hp
   ·rename_i new hrn
    split at hp
    ·cases hp
    ·rename_i old hro
     split at hp
     ·cases hp
     ·rename_i hbig
      simp only [Bool.or_eq_true,Bool.not_eq_true',not_or,Bool.not_eq_true,Bool.not_eq_false] at hbig
      have hlt:len+xlen<2^36:=by
       rcases Nat.lt_or_ge (len+xlen) (2^36) with h' | h'
       ·exact h'
       ·have:=Nat.ble_eq_true_of_le h'
        rw [hbig.1] at this
        cases this
      have hsc:=hbig.2
      have grow:(∀ a' c',a.eval X=.slice a' len c'→c'<len+xlen)→β H.n=none→∀ Hs,(Hs=H∨∃ id,Hs=H.kill id)→(∀ id,Hs.t.get id≠none→Hs.t.get id=H.t.get id) →
        HSim P β H w (Builtin.append_ #[t,tx] ty #[a.eval X,a.eval Y]) (.slice (some ⟨H.n,0,none⟩) (len+xlen) UC) (Hs.new ⟨old++new,i.size+2⟩):=by
       intro hcap hn0 Hs hHs hHg
       obtain ⟨v',w',c,el,r1,r2,r3,r4,r5,rfl,r6,r7,rest,ds,r8,r9⟩:=append_grow (P:=P) (ty:=ty) ht htx hi hz hb hzl hpos hu hx h hn0 hxl hro hrn hsc hlt hcap
       have hpost:Post P β H w (grown β H.n ⟨w.heap.size,el*i.size,i.size⟩) (H.new ⟨old++new,i.size+2⟩) w':=
        Post.new (bi:=⟨w.heap.size,el*i.size,i.size⟩) h hn0 r2 r3 r4 r5 rfl ⟨⟨rest,ds,r8,r9⟩,fun _=>rfl,fun s hs=>⟨r7.symm,by simpa using hs⟩⟩
       refine ⟨_,w',grown β H.n ⟨w.heap.size,el*i.size,i.size⟩,r1,.slu (bi:=⟨w.heap.size,el*i.size,i.size⟩) 0 (len+xlen) el grown_self r6 (fun _=>rfl),?_⟩
       rcases hHs with rfl | ⟨id,rfl⟩
       ·exact hpost
       ·
        have gk:∀ j b,((H.kill id).new ⟨old++new,i.size+2⟩).t.get j=some b→(H.new ⟨old++new,i.size+2⟩).t.get j=some b:=by
         intro j b hj
         simp only [AH.new,AH.kill] at hj ⊢
         rw [T.get_set] at hj ⊢
         split at hj
         ·rename_i hjn;rw [if_pos hjn];exact hj
         ·rename_i hjn
          rw [if_neg hjn]
          rw [T.get_del] at hj
          split at hj
          ·cases hj
          ·exact hj
        exact ⟨hpost.ext,hpost.old,⟨fun j b hj=>hpost.rel.lt j b (gk j b hj),hpost.rel.glt,hpost.rel.glob,fun j bi b e1 e2=>hpost.rel.blk j bi b e1 (gk _ _ e2),
         fun j k b1 b2 k1 k2 e1 e2=>hpost.rel.inj j k b1 b2 k1 k2 (gk _ _ e1) (gk _ _ e2)⟩,hpost.size,hpost.frame,hpost.fresh,hpost.os,hpost.tape,hpost.output⟩
      split at hp
      ·split at hp
       ·rename_i hz0
        simp only [Bool.and_eq_true] at hz0
        have l0:=Nat.eq_of_beq_eq_true hz0.1
        have c0:=Nat.eq_of_beq_eq_true hz0.2
        subst l0;subst c0
        simp only [Option.some.injEq,Prod.mk.injEq] at hp
        obtain ⟨rfl,rfl⟩:=hp
        obtain ⟨_,_,hue⟩:=hu.slice_none
        have hold:old=[]:=by rw [Nat.zero_mul] at hro;exact (rdSlice_none hro).2
        subst hold
        have:=grow (fun a' c' e=>by rw [hue] at e;cases e;omega) (hn H.n (Nat.le_refl _) (Nat.lt_succ_self _)) H (.inl rfl) (fun _ _=>rfl)
        simpa using this
       ·cases hp
      ·rename_i ad'
       split at hp
       ·rename_i huc
        have huc:=Nat.eq_of_beq_eq_true huc
        subst huc
        split at hp
        ·cases hp
        ·rename_i bk hbk
         split at hp
         ·rename_i hk0
          simp only [Bool.and_eq_true] at hk0
          have off0:=Nat.eq_of_beq_eq_true hk0.1
          have kind0:=Nat.eq_of_beq_eq_true hk0.2
          simp only [Option.some.injEq,Prod.mk.injEq] at hp
          obtain ⟨rfl,rfl⟩:=hp
          have hn0:β H.n=none:=hn H.n (Nat.le_refl _) (Nat.lt_succ_self _)
          by_cases hroom:∃ a' c',a.eval X=.slice a' len c'∧len+xlen≤c'
          ·
           cases hu.slice_inv with
           | sl bi hs hβ hl hc hue=>omega
           | sl0 a' hs hl hc hue=>omega
           | sle bi o' c hs hβ hc hl ho hue=>exact absurd off0 ho
           | slu bi c hs hβ hc hl htot hue=>
             obtain ⟨a'',c'',he'',hroom⟩:=hroom
             rw [hue] at he''
             simp only [Value.slice.injEq] at he''
             obtain ⟨_,_,rfl⟩:=he''
             obtain ⟨cc,el,fz,g1,g2⟩:=h.blk _ bi bk hβ hbk
             obtain ⟨rest,xs,p1,p2⟩:=g2.pre
             obtain rfl:=g2.rw (by omega)
             obtain ⟨gr1,gr2⟩:=g2.grow i.size kind0
             have htot:=htot off0
             rw [gr1,gr2] at htot
             obtain ⟨xa',xc',hxe,hxl',ns,n1,n2,n3,n4⟩:=slice_cells hx h hrn (fun _=>hxl)
             obtain ⟨e',htx⟩:=htx
             have hone:∀ u∈ns,u.oneCell'=true:=n1.oneCell hsc
             have hsrc:Src P i.size tx (.slice xa' xlen xc') xlen ns w:=by
              cases xa' with
              | none=>exact absurd (n4 rfl).2.1 hxl
              | some b=>exact Src.ofSlice w htx b xlen xc' ns n2 (n3 b rfl) hone
             have hfit:len*i.size+xlen*i.size≤cc.size:=by
              rw [htot,←Nat.add_mul];exact Nat.mul_le_mul_right _ hroom
             have hst:=run_storeCells_at P bi.b (len*i.size) el ns 0 cc w g1 (by rw [n2];omega) hone
             have hold:old=(bk.cells.take (len*i.size))∧len*i.size≤bk.cells.length:=by
              rcases rdSlice_some hro with ⟨e0,e1⟩ | ⟨_,bk',hb',ht'⟩
              ·rw [e0,e1];simp
              ·rw [hbk] at hb';cases hb'
               obtain ⟨f1,f2⟩:=takeCells_some ht'
               rw [off0] at f1
               simp only [List.drop_zero] at f1
               refine ⟨f1,?_⟩
               rw [f1,List.length_take] at f2
               omega
             have hxs:=p2.length
             have hccl:cc.size=xs.length+rest.length:=by rw [←Array.length_toList,p1,List.length_append]
             refine ⟨.slice (some ⟨bi.b,ad'.off,none⟩) (len+xlen) c,w.setRow bi.b (cc.toList.take (len*i.size)++ns++cc.toList.drop (len*i.size+ns.length)).toArray,grown β H.n bi,?_,?_,?_⟩
             ·rw [hue,hxe]
              simp only [Nat.add_zero] at hst
              have hkind:=hsrc.kind
              rcases hkind with ⟨e'',hk⟩ | hk<;>simp [Builtin.append_,run_underlying ht,run_underlying hk,sizeOf,typeInfo,hi,hsrc.len,hroom,hsrc.cells,Addr.add_lit,off0,hst]
             ·rw [off0]
              exact .slu (bi:=bi) 0 (len+xlen) c grown_self hroom (fun _=>by rw [gr1,gr2,htot])
             ·refine Post.regrow (bk':=⟨old++new,i.size+2⟩) h hn0 hbk hβ (by omega) g1 ⟨⟨cc.toList.drop (len*i.size+ns.length),cc.toList.take (len*i.size)++ns,by simp,?_⟩,fun _=>rfl,fun s hs=>?_⟩
              ·rw [hold.1,p1]
               refine VRs.append ?_ n1
               rw [List.take_append_of_le_length (by omega)]
               exact p2.take _
              ·have hs:i.size=s:=by simpa using hs
               subst hs
               refine ⟨?_,gr2⟩
               rw [gr1]
               simp
               omega
          ·refine grow (fun a' c' e=>?_) hn0 _ (.inr ⟨ad'.block,rfl⟩) (fun id hid=>?_)
           ·rcases Nat.lt_or_ge c' (len+xlen) with h' | h'
            ·exact h'
            ·exact absurd ⟨a',c',e,h'⟩ hroom
           ·simp only [AH.kill] at hid ⊢
            rw [T.get_del] at hid ⊢
            split at hid
            ·exact absurd rfl hid
            ·rename_i hne;rw [if_neg hne]
         ·cases hp
       ·rename_i huc
        split at hp
        ·rename_i hlt2
         have hcl:cap<len+xlen:=Nat.le_of_ble_eq_true hlt2
         simp only [Option.some.injEq,Prod.mk.injEq] at hp
         obtain ⟨rfl,rfl⟩:=hp
         have huc:cap≠UC:=fun e=>huc (by rw [e];exact Nat.beq_refl UC)
         refine grow (fun a' c' e=>?_) (hn H.n (Nat.le_refl _) (Nat.lt_succ_self _)) H (.inl rfl) (fun _ _=>rfl)
         cases hu.slice_inv with
         | sl bi hs hβ hl hc hue=>rw [hue] at e;cases e;exact hcl
         | sl0 a' hs hl hc hue=>rw [hue] at e;cases e;exact hcl
         | slu bi c hs hβ hc hl htot hue=>exact absurd hc huc
         | sle bi o' c hs hβ hc hl ho hue=>exact absurd hc huc
        ·cases hp
 ·cases hp
theorem copy_sim {t tx ty e:TypeId} {X Y:Operand} {v:Value} {H1:AH} (ht:P.underlying t=some (.slice e)) (hs:tsz P e=some 1) (hX:Ok1 β E a X) (hY:Ok1 β E a Y)
  (hp:hop E H (.copy 1 X Y)=some (v,H1)) (h:Rel P β H w):HSim P β H w (Builtin.copy_ #[t,tx] ty #[a.eval X,a.eval Y]) v H1:=by
 obtain ⟨ie,hi1,hi2⟩:=tsz_some hs
 simp only [hop] at hp
 split at hp
 ·rename_i ad dlen dcap sa slen scap h1 h2
  have hu:=hX _ h1
  have hx:=hY _ h2
  simp only [cond_eq_ite] at hp
  split at hp
  ·rename_i h0
   have h0:=Nat.eq_of_beq_eq_true h0
   simp only [Option.some.injEq,Prod.mk.injEq] at hp
   obtain ⟨rfl,rfl⟩:=hp
   obtain ⟨a',c',hue,hl',_⟩:=slice_cells (n:=0) (cs:=[]) hu h (by cases ad<;>rfl) (fun hh=>absurd rfl hh)
   obtain ⟨xa',xc',hxe,hxl',_⟩:=slice_cells (n:=0) (cs:=[]) hx h (by cases sa<;>rfl) (fun hh=>absurd rfl hh)
   refine ⟨.int .i64 0,w,β,?_,.int _ _,Post.refl h⟩
   rw [hue,hxe]
   exact run_copy_none w t tx ty e a' xa' dlen c' slen xc' ht (by rw [hi1];simp [hi2]) h0
  ·rename_i h0
   have hn0:=beq_ne0 h0
   split at hp
   ·cases hp
   ·rename_i vs hrs
    split at hp
    ·cases hp
    ·rename_i ad'
     split at hp
     ·cases hp
     ·rename_i bk hbk
      split at hp
      ·cases hp
      ·rename_i hbad
       split at hp
       ·cases hp
       ·rename_i cs hput
        simp only [Option.some.injEq,Prod.mk.injEq] at hp
        obtain ⟨rfl,rfl⟩:=hp
        simp only [Bool.or_eq_true,Bool.not_eq_true',not_or,Bool.not_eq_true,Bool.not_eq_false] at hbad
        have hk:bk.kind≠1:=fun e=>by rw [e] at hbad;exact absurd hbad.1 (by decide)
        have hsc:=hbad.2
        have hdl:dlen≠0:=fun e=>hn0 (by rw [e];simp)
        have hsl:slen≠0:=fun e=>hn0 (by rw [e];simp)
        rw [Nat.mul_one] at hrs
        obtain ⟨xa',xc',hxe,hxl',ns,n1,n2,n3,n4⟩:=slice_cells hx h hrs (fun _=>hsl)
        have hone:∀ u∈ns,u.oneCell'=true:=n1.oneCell hsc
        have dst:∃ bi c',β ad'.block=some bi∧a.eval X=.slice (some ⟨bi.b,ad'.off,none⟩) dlen c':=by
         cases hu.slice_inv with
         | sl bi hs hβ hl hc hue=>exact ⟨bi,_,hβ,hue⟩
         | slu bi c hs hβ hc hl htot hue=>exact ⟨bi,_,hβ,hue⟩
         | sle bi o' c hs hβ hc hl ho hue=>exact absurd hl hdl
         | sl0 a' hs hl hc hue=>exact absurd hl hdl
        obtain ⟨bi,c',hβ,hue⟩:=dst
        obtain ⟨cc,el,fz,g1,g2⟩:=h.blk _ bi bk hβ hbk
        obtain ⟨rest,xs,p1,p2⟩:=g2.pre
        obtain rfl:=g2.rw hk
        obtain ⟨hle,rfl⟩:=putCells_some hput
        have hnl:=n1.length
        have hxs:=p2.length
        have hccl:cc.size=xs.length+rest.length:=by rw [←Array.length_toList,p1,List.length_append]
        have hxn:∃ b,xa'=some b:=by
         cases xa' with
         | none=>exact absurd (n4 rfl).2.1 hsl
         | some b=>exact ⟨b,rfl⟩
        obtain ⟨xb,rfl⟩:=hxn
        have hrun:=run_copy_row (P:=P) w t tx ty e bi.b ad'.off dlen c' xb slen xc' cc el ns ht (by rw [hi1];simp [hi2]) g1 n2 (n3 xb rfl) (by omega) hone
        refine ⟨.int .i64 ns.length,_,β,by rw [hue,hxe];exact hrun,by rw [n2];exact .int _ _,Post.write h hbk hβ hk g1 ?_ ?_⟩
        ·simp;omega
        ·rw [hnl]
         refine ⟨rest,xs.take ad'.off++(ns++xs.drop (ad'.off+ns.length)),?_,VRs.append (p2.take _) (VRs.append n1 (p2.drop _))⟩
         simp only [p1]
         rw [List.take_append_of_le_length (by omega),List.drop_append_of_le_length (by omega)]
         simp
 ·cases hp
theorem buildSlice_sim {t e:TypeId} {n s:Nat} {z:List Value} {ps:Array (Nat×Operand)} {cs:List Value} (ht:P.underlying t=some (.slice e)) (hs:tsz P e=some s) (hz:zeroOf P e=some z) (hns:n*s≤4096)
  (hzl:z.length=s) (hpos:0<s) (hok:∀ q∈arrParts s ps.toList,Ok1 β E a q.2.2)
  (hf:fillParts E ((List.range (n*s)).map fun i=>z.getD (i % s) (.tuple ⟨[]⟩)) (arrParts s ps.toList)=some cs) (h:Rel P β H w) (hn:β H.n=none) :
  HSim P β H w (Instr.buildSlice t n (ps.map fun (i,x)=>(i,a.eval x))) (.slice (some ⟨H.n,0,none⟩) n n) (H.new ⟨cs,0⟩):=by
 obtain ⟨i,v,hi,hiz,rfl,hp⟩:=zeroOf_some hz
 obtain ⟨ie,hie,rfl⟩:=tsz_some hs
 rw [hi] at hie;cases hie
 have hm:=made_rel (β:=β) (v:=v) (n:=n*i.size) hp (by omega)
 rw [hzl] at hm
 obtain ⟨ds,hf',hv⟩:=fill_sim (β:=β) (E:=E) (a:=a) (place:=fun j=>some (j*i.size,i.size)) (qs:=arrParts i.size ps.toList) (ps:=ps.toList) (ds:=madeCells v.cells (n*i.size))
  (by simp [arrParts]) (fun p hp=>rfl) (by simp [arrParts]) hok hf hm
 obtain ⟨w',r1,r2⟩:=newRow_sim (P:=P) (t:=e) (c:=ds) h hn hv
 refine ⟨.slice (some ⟨w.heap.size,0,none⟩) n n,w',_,?_,.sl (bi:=⟨w.heap.size,0,0⟩) 0 n n grown_self (Nat.le_refl _) ?_,r2⟩
 ·have h24:¬ (n*i.size > 2^24):=by omega
  by_cases h0:n*i.size=0
  ·rw [h0] at hf'
   simp only [madeCells,Array.range_zero',Array.map_empty] at hf'
   simp [Instr.buildSlice,run_underlying ht,sizeOf,typeInfo,hi,h0,Array.range_zero',mapPairs,hf',r1]
  ·have h24':¬ (16777216<n*i.size):=by omega
   simp only [madeCells] at hf'
   simp [Instr.buildSlice,run_underlying ht,sizeOf,typeInfo,zeroValue,hi,hiz,h0,h24',mapPairs,hf',r1]
 ·have:n≤n*i.size:=Nat.le_mul_of_pos_right n hpos
  unfold UC;omega
end
end Go.AL
end
section
set_option linter.unusedSimpArgs false
set_option linter.unusedVariables false
set_option maxHeartbeats 1000000
namespace Go.AL
section
variable {P:Program} {β:BM} {E:Env} {a:Act} {H:AH} {w:World}
def SimF (P:Program) (call:Call):Prop:=
 ∀ f args H v H1, call f args H = some (v, H1) → AP H H1 ∧ (∃ fn, P.funcs[f]? = some fn ∧ fn.body.isSome = true ∧ (fn.name == "runtime.NumGoroutine") = false) ∧
   ∀ β w cargs,VRs β args cargs→Rel P β H w→(∀ id,H.n≤id→id<H1.n→β id=none) →
     Calls P f ⟨cargs⟩ w fun e w'=>∃ β' v',e=.returned v'∧VR β' v v'∧Post P β H w β' H1 w'
theorem run_value' {s:Sem Value} {v:Value} {w w':World} (h:s.run P w=.ok v w'):((do pure (Next.value (←s))):Sem Next).run P w=.ok (.value v) w':=by
 simp [h]
theorem hop_sim {o:Oper} {i:IOp} {v:Value} {H1:AH} (hc:cop0 P o.op=some i) (hok:∀ x∈i.opnds,Ok1 β E a x) (hp:hop E H i=some (v,H1)) (h:Rel P β H w) (hn:∀ id,H.n≤id→id<H1.n→β id=none) :
  ∃ r v' w' β',(execOp a.eval o).run P w=.ok r w'∧(r=.value v'∨(r=.skip∧v'=undef))∧VR β' v v'∧Post P β H w β' H1 w':=by
 obtain ⟨dst,op,type,pos,after,guard⟩:=o
 simp only at hc
 have fin:∀ (s:Sem Value),execOp a.eval ⟨dst,op,type,pos,after,guard⟩=(do pure (Next.value (←s)))→HSim P β H w s v H1 →
   ∃ r v' w' β',(execOp a.eval ⟨dst,op,type,pos,after,guard⟩).run P w=.ok r w'∧(r=.value v'∨(r=.skip∧v'=undef))∧VR β' v v'∧Post P β H w β' H1 w':=by
  rintro s hs ⟨v',w',β',h1,h2,h3⟩
  exact ⟨.value v',v',w',β',by rw [hs];exact run_value' h1,.inl rfl,h2,h3⟩
 cases op
 case alloc e=>
  simp only [cop0] at hc
  split at hc
  ·rename_i z hz
   cases hc
   simp only [hop,Option.some.injEq,Prod.mk.injEq] at hp
   obtain ⟨rfl,rfl⟩:=hp
   exact fin _ rfl (alloc_sim hz h (hn H.n (Nat.le_refl _) (Nat.lt_succ_self _)))
  ·cases hc
 case box e x=>
  simp only [cop0,Option.some.injEq] at hc;subst hc
  simp only [hop,cond_eq_ite] at hp
  split at hp
  ·cases hp
  ·rename_i u hu
   split at hp
   ·cases hp
   rename_i hj
   simp only [Option.some.injEq,Prod.mk.injEq] at hp
   obtain ⟨rfl,rfl⟩:=hp
   exact fin _ rfl (box_sim (by simpa using hj) (hok x (by simp [IOp.opnds]) _ hu) h (hn H.n (Nat.le_refl _) (Nat.lt_succ_self _)))
 case buildSlice t n ps=>
  simp only [cop0] at hc
  split at hc
  ·rename_i e hu
   split at hc
   ·rename_i s z hs hz
    split at hc
    ·rename_i hcond
     cases hc
     simp only [hop] at hp
     split at hp
     ·cases hp
     ·rename_i cs hf
      simp only [Option.some.injEq,Prod.mk.injEq] at hp
      obtain ⟨rfl,rfl⟩:=hp
      exact fin _ rfl (buildSlice_sim hu hs hz hcond.1 hcond.2.1 hcond.2.2 (fun q hq=>hok _ (by simp only [IOp.opnds,List.mem_map];exact ⟨q,hq,rfl⟩)) hf h (hn H.n (Nat.le_refl _) (Nat.lt_succ_self _)))
    ·cases hc
   ·cases hc
  ·cases hc
 case load t x=>
  simp only [cop0] at hc
  split at hc
  ·rename_i g hg
   cases hc
   simp only [hop] at hp
   split at hp
   ·rename_i ad hx
    split at hp
    ·cases hp
    ·rename_i bk hb
     split at hp
     ·cases hp
     ·rename_i u hpart
      simp only [Option.some.injEq,Prod.mk.injEq] at hp
      obtain ⟨rfl,rfl⟩:=hp
      obtain ⟨bi,hsp,hβ,he⟩:=(hok x (by simp [IOp.opnds]) _ hx).ptr_inv
      obtain ⟨v',r1,r2⟩:=load_run (P:=P) (w:=w) hg h hβ hb hpart
      exact fin _ rfl ⟨v',w,β,by rw [he];simp [Instr.loadAt,Instr.sureAddr,r1],r2,Post.refl h⟩
   ·cases hp
  ·cases hc
 case store t x y=>
  simp only [cop0] at hc
  split at hc
  ·rename_i s hs
   cases hc
   simp only [hop,cond_eq_ite] at hp
   split at hp
   ·rename_i ad u hx hy
    split at hp
    ·cases hp
    ·rename_i bk hb
     split at hp
     ·cases hp
     ·rename_i hbad
      split at hp
      ·cases hp
      ·rename_i cs hput
       simp only [Option.some.injEq,Prod.mk.injEq] at hp
       obtain ⟨rfl,rfl⟩:=hp
       simp only [Bool.or_eq_true,Bool.not_eq_true',not_or,Bool.not_eq_true,Bool.not_eq_false] at hbad
       obtain ⟨⟨hk,hl⟩,hsc⟩:=hbad
       obtain ⟨bi,hsp,hβ,he⟩:=(hok x (by simp [IOp.opnds]) _ hx).ptr_inv
       have hj:junk u=false:=by cases u<;>first | rfl | (simp [AL.cellsOf,scalar] at hsc)
       have hv:=(hok y (by simp [IOp.opnds]) _ hy).cellsOf hj
       obtain ⟨w',r1,r2⟩:=store_run (P:=P) (w:=w) hs h hβ hb (fun e=>by rw [e] at hk;exact absurd hk (by decide)) hput hv (Nat.eq_of_beq_eq_true hl) hsc
       refine ⟨.skip,undef,w',β,?_,.inr ⟨rfl,rfl⟩,.tuple .nil,r2⟩
       rw [show a.eval=a.eval from rfl]
       simp only [execOp,Instr.storeAt,he,Instr.sureAddr,Sem.run_bind,Sem.run_pure,Result.andThen_ok,r1]
   ·cases hp
  ·cases hc
 case makeSlice t l c=>
  simp only [cop0] at hc
  split at hc
  ·rename_i e hu
   split at hc
   ·rename_i i z hi hz
    split at hc
    ·rename_i hcond
     cases hc
     simp only [hop] at hp
     split at hp
     ·rename_i k1 l1 k2 c1 hl hcc
      split at hp
      ·rename_i hlc
       simp only [Option.some.injEq,Prod.mk.injEq] at hp
       obtain ⟨rfl,rfl⟩:=hp
       have e1:=(hok l (by simp [IOp.opnds]) _ hl).int_inv
       have e2:=(hok c (by simp [IOp.opnds]) _ hcc).int_inv
       refine fin (Instr.makeSlice t (a.eval l) (a.eval c)) rfl ?_
       rw [e1,e2]
       exact make_sim hu hi hz hcond.1 hcond.2.1 hcond.2.2 hlc.1 hlc.2.1 hlc.2.2 h (hn H.n (Nat.le_refl _) (Nat.lt_succ_self _))
      ·cases hp
     ·cases hp
    ·cases hc
   ·cases hc
  ·cases hc
 case call c=>
  obtain ⟨callee,args,argTypes⟩:=c
  simp only [cop0] at hc
  split at hc
  ·cases hc;simp [hop] at hp
  ·split at hc
   ·split at hc<;>first | (cases hc;simp [hop] at hp) | cases hc
   ·cases hc
  ·
   split at hc
   ·rename_i t u x y ht' hx'
    have ea:args=#[x,y]:=by apply Array.ext';simpa using hx'
    have et:argTypes=#[t,u]:=by apply Array.ext';simpa using ht'
    subst ea;subst et
    split at hc
    ·rename_i e e' hu hu'
     split at hc
     ·rename_i i z hi hz
      split at hc
      ·rename_i hcond
       cases hc
       refine fin (Builtin.append_ #[t,u] type #[a.eval x,a.eval y]) (by simp [execOp,resolve,invoke,builtin]) ?_
       exact append_sim hu ⟨e',hu'⟩ hi hz hcond.1 hcond.2.1 hcond.2.2 (hok x (by simp [IOp.opnds])) (hok y (by simp [IOp.opnds])) hp h hn
      ·cases hc
     ·cases hc
    ·cases hc
   ·cases hc
  ·
   split at hc
   ·rename_i t u x y ht' hx'
    have ea:args=#[x,y]:=by apply Array.ext';simpa using hx'
    have et:argTypes=#[t,u]:=by apply Array.ext';simpa using ht'
    subst ea;subst et
    split at hc
    ·rename_i e hu
     split at hc
     ·rename_i hs
      cases hc
      refine fin (Builtin.copy_ #[t,u] type #[a.eval x,a.eval y]) (by simp [execOp,resolve,invoke,builtin]) ?_
      exact copy_sim hu hs (hok x (by simp [IOp.opnds])) (hok y (by simp [IOp.opnds])) hp h
     ·cases hc
    ·cases hc
   ·cases hc
  ·cases hc;simp [hop] at hp
  ·cases hc;simp [hop] at hp
  ·cases hc
 all_goals
  simp only [cop0] at hc
  repeat' (split at hc)
  all_goals first
   | (cases hc;simp [hop] at hp;done)
   | cases hc
theorem cop_some {o:Op} {i:IOp} (h:cop P o=some i):cop0 P o=some i∧i.opnds.all (opOk P)=true:=by
 unfold cop at h
 split at h
 ·cases h
 ·rename_i j hj
  split at h
  ·rename_i ha;cases h;exact ⟨hj,ha⟩
  ·cases h
theorem stepOp_ap {call:Call} (hF:SimF P call) {i:IOp} {v:Value} {H1:AH} (h:stepOp call E H i=some (v,H1)):AP H H1:=by
 cases i
 case call f args=>
  simp only [stepOp] at h
  split at h
  ·exact (hF _ _ _ _ _ h).1
  ·cases h
 all_goals
  simp only [stepOp,IOp.touch,cond_true,cond_false] at h
  first
   | exact hop_ap h
   | (split at h
      ·cases h
      ·simp only [Option.some.injEq,Prod.mk.injEq] at h;obtain ⟨_,rfl⟩:=h;exact AP.refl _)
theorem stepOp_pure {call:Call} {i:IOp} {v:Value} {H1:AH} (ht:i.touch=false) (h:stepOp call E H i=some (v,H1)):pop E i=some v∧H1=H:=by
 cases i<;>simp only [IOp.touch,reduceCtorEq] at ht
 all_goals
  simp only [stepOp,IOp.touch,cond_false] at h
  split at h
  ·cases h
  ·rename_i u hu
   simp only [Option.some.injEq,Prod.mk.injEq] at h
   exact ⟨by rw [hu,h.1],h.2.symm⟩
theorem stepOp_keep {call:Call} {i:IOp} {v:Value} {H1:AH} (hw:i.wrt=false) (h:stepOp call E H i=some (v,H1)):∀ id,id<H.n→H1.t.get id=H.t.get id:=by
 intro id hid
 cases ht:i.touch with
 | false=>rw [(stepOp_pure ht h).2]
 | true=>
   have hh:hop E H i=some (v,H1):=by
    cases i<;>simp only [IOp.touch,IOp.wrt,reduceCtorEq] at ht hw
    all_goals simpa only [stepOp,IOp.touch,cond_true] using h
   have hnew:∀ b,(H.new b).t.get id=H.t.get id:=fun b=>by simp only [AH.new];rw [T.get_set_ne _ _ (Nat.ne_of_lt hid)]
   cases i<;>simp only [IOp.touch,IOp.wrt,reduceCtorEq] at ht hw
   all_goals simp only [hop,cond_eq_ite] at hh
   all_goals (repeat' (split at hh))
   all_goals first
    | (cases hh;done)
    | (simp only [Option.some.injEq,Prod.mk.injEq] at hh;obtain ⟨_,rfl⟩:=hh;first | exact hnew _ | rfl)
theorem step_sim {call:Call} (hF:SimF P call) {o:Oper} {i:IOp} {v:Value} {H1:AH} (hc:cop0 P o.op=some i) (hok:∀ x∈i.opnds,Ok1 β E a x) (hs:stepOp call E H i=some (v,H1)) (h:Rel P β H w)
  (hn:∀ id,H.n≤id→id<H1.n→β id=none) {K:Act→World→Prop} {Q:Exit→Act→World→Prop}
  (hK:∀ v' w' β',VR β' v v'→Post P β H w β' H1 w'→K (a.put o.dst v') w'):Oper.wp P o a w K Q:=by
 by_cases hcall:∃ f args,i=.call f args
 ·obtain ⟨f,args,rfl⟩:=hcall
  simp only [stepOp] at hs
  split at hs
  ·rename_i k fs cs vs hf hvs
   obtain ⟨hap,⟨fn,hfn,hbody,hname⟩,hcalls⟩:=hF _ _ _ _ _ hs
   have hfv:=hok f (by simp [IOp.opnds]) _ hf
   obtain ⟨fs',cs',he,hfs,hcs⟩:=hfv.func_inv
   have hvs':=evs_sim (β:=β) (E:=E) (a:=a) (fun x hx=>hok x (by simp [IOp.opnds,hx])) hvs
   have hop:∃ c:Go.Call,o.op=.call c∧c.callee=.value f∧c.args.toList=args:=by
    obtain ⟨dst,op,type,pos,after,guard⟩:=o
    simp only at hc ⊢
    cases op<;>simp only [cop0] at hc
    case call c=>
     refine ⟨c,rfl,?_⟩
     repeat' (split at hc)
     all_goals first
      | (rename_i hcal;simp only [Option.some.injEq,IOp.call.injEq] at hc;exact ⟨by rw [hcal,hc.1],hc.2⟩)
      | (simp at hc;done)
      | cases hc
    all_goals
     repeat' (split at hc)
     all_goals first
      | (simp at hc;done)
      | cases hc
   obtain ⟨c,ho,hcal,hargs⟩:=hop
   have hrun:(execOp a.eval o).run P w=.ok (.enter k (⟨fs'⟩++c.args.map a.eval++⟨cs'⟩)) w:=by
    obtain ⟨dst,op,type,pos,after,guard⟩:=o
    simp only at ho
    subst ho
    cases hb:fn.body with
    | none=>rw [hb] at hbody;cases hbody
    | some b=>simp only [execOp,resolve,hcal,he,Deferred.ofValue,Sem.run_bind,Sem.run_pure,Result.andThen_ok,invoke,callFunc,run_program,hfn,hname,Bool.false_eq_true,if_false,hb,Option.isNone_some]
   unfold Oper.wp
   rw [hrun]
   simp only [Oper.upon]
   have hargs':(⟨fs'⟩++c.args.map a.eval++⟨cs'⟩:Array Value)=⟨fs'++(args.map a.eval++cs')⟩:=by
    apply Array.ext';simp [←hargs]
   rw [hargs']
   refine (hcalls β w _ (hfs.append (hvs'.append hcs)) h hn).mono ?_
   rintro e w' ⟨β',v',rfl,hv,hpost⟩
   exact hK v' w' β' hv hpost
  ·cases hs
 ·by_cases ht:i.touch=false
  ·obtain ⟨hp,rfl⟩:=stepOp_pure ht hs
   obtain ⟨v',r1,r2⟩:=pop_sim hc ht hok hp w
   unfold Oper.wp
   rw [r1]
   exact hK v' w β r2 (Post.refl h)
  ·have hh:hop E H i=some (v,H1):=by
    cases i
    all_goals first
     | (exact (ht rfl).elim)
     | (exact absurd ⟨_,_,rfl⟩ hcall)
     | (simpa only [stepOp,IOp.touch,cond_true] using hs)
   obtain ⟨r,v',w',β',r1,r2,r3,r4⟩:=hop_sim hc hok hh h hn
   unfold Oper.wp
   rw [r1]
   rcases r2 with rfl | ⟨rfl,rfl⟩
   ·exact hK v' w' β' r3 r4
   ·exact hK undef w' β' r3 r4
end
end Go.AL
end
section
set_option linter.unusedSimpArgs false
set_option linter.unusedVariables false
set_option maxHeartbeats 1000000
namespace Go.AL
section
variable {P:Program} {β:BM} {E:Env} {a:Act} {H:AH} {w:World} {call:Call} {ds:List Deferred}
def EnvRel (β:BM) (E:Env) (a:Act):Prop:=∀ t v,E.get t=some v→VR β v (a.tmps.getD t undef)
theorem EnvRel.mono {β':BM} (h:EnvRel β E a) (hb:β.le β'):EnvRel β' E a:=fun t v e=>(h t v e).mono hb
theorem getD_put {d:Option Nat} {v:Value} (t:Nat) (hd:∀ x,d=some x→x<a.tmps.size):(a.put d v).tmps.getD t undef=if d=some t then v else a.tmps.getD t undef:=by
 cases d with
 | none=>simp [Act.put]
 | some d=>
   have hlt:=hd d rfl
   simp only [Act.put,Array.getD_eq_getD_getElem?,Array.getElem?_setIfInBounds]
   by_cases h:d=t
   ·subst h;simp [hlt]
   ·simp [h]
theorem size_put {d:Option Nat} {v:Value}:(a.put d v).tmps.size=a.tmps.size:=by cases d<;>simp [Act.put]
theorem defers_put {d:Option Nat} {v:Value}:(a.put d v).defers=a.defers:=by cases d<;>rfl
theorem get_put {d:Option Nat} {v:Value} (t:Nat):(put E d v).get t=if d=some t then some v else E.get t:=by
 cases d with
 | none=>simp [put]
 | some d=>
   simp only [put]
   rw [T.get_set]
   by_cases h:t=d
   ·subst h;simp
   ·have:¬ d=t:=fun e=>h e.symm
    simp [h,this]
theorem EnvRel.put {d:Option Nat} {v v':Value} (h:EnvRel β E a) (hd:∀ x,d=some x→x<a.tmps.size) (hv:VR β v v'):EnvRel β (AL.put E d v) (a.put d v'):=by
 intro t u e
 rw [get_put] at e
 rw [getD_put t hd]
 split at e
 ·rename_i hh;cases e;rw [if_pos hh];exact hv
 ·rename_i hh;rw [if_neg hh];exact h t u e
theorem ok1_of {x:Operand} (hg:∀ g,g<P.globals.size→β g=some ⟨g,0,0⟩) (ho:opOk P x=true) (ht:∀ t v,x=.tmp t→E.get t=some v→VR β v (a.tmps.getD t undef)):Ok1 β E a x:=by
 intro v hv
 cases x with
 | tmp t=>exact ht t v rfl (by simpa [ev] using hv)
 | const u=>simp only [ev,Option.some.injEq] at hv;subst hv;exact VR.plainV ho
 | global g=>
   simp only [ev,Option.some.injEq] at hv;subst hv
   exact .ptr (bi:=⟨g,0,0⟩) 0 (hg g (by simpa [opOk] using ho))
 | func f=>simp only [ev,Option.some.injEq] at hv;subst hv;exact .func _ .nil .nil
theorem wanted_sim {ops:Array Oper} {o:Oper} {g:Option (Nat×Bool)} {b:Bool} (hc:cguard ops o.guard=some g) (hw:wanted E g=some b)
  (ht:∀ t x v,g=some (t,x)→E.get t=some v→VR β v (a.tmps.getD t undef)):Region.wanted o (yielded ops a.tmps)=b:=by
 unfold cguard at hc
 cases hg:o.guard with
 | none=>
   rw [hg] at hc
   simp only [Option.some.injEq] at hc
   subst hc
   simp only [wanted,Option.some.injEq] at hw
   simp [Region.wanted,hg,hw]
 | some jb=>
   obtain ⟨j,want⟩:=jb
   rw [hg] at hc
   simp only at hc
   cases hj:ops[j]? with
   | none=>simp [hj] at hc
   | some oj=>
     simp only [hj] at hc
     cases hd:oj.dst with
     | none=>simp [hd] at hc
     | some t=>
       simp only [hd,Option.some.injEq] at hc
       subst hc
       simp only [wanted] at hw
       have hyb:∀ c,a.tmps[t]?=some (.bool c)→yielded ops a.tmps j=some c:=fun c h=>by simp [yielded,hj,hd,h]
       have hyn:(∀ c,a.tmps[t]?≠some (.bool c))→yielded ops a.tmps j=none:=fun h=>by
        unfold yielded
        simp only [hj,hd,Option.bind_some]
       split at hw
       ·rename_i c he
        simp only [Option.some.injEq] at hw
        have:=(ht t want _ rfl he).bool_inv
        have ht':a.tmps[t]?=some (.bool c):=by
         cases hq:a.tmps[t]? with
         | none=>simp [Array.getD_eq_getD_getElem?,hq,undef] at this
         | some u=>simp [Array.getD_eq_getD_getElem?,hq] at this;rw [this]
        simp only [Region.wanted,hg,hyb c ht']
        rw [←hw]
        cases c<;>cases want<;>rfl
       ·rename_i he
        simp only [Option.some.injEq] at hw
        subst hw
        obtain ⟨ds,e1,e2⟩:=(ht t want _ rfl he).tuple_inv
        cases e2
        have ht':∀ b,a.tmps[t]?≠some (.bool b):=fun b hb=>by simp [Array.getD_eq_getD_getElem?,hb] at e1
        simp only [Region.wanted,hg,hyn ht']
        cases want<;>rfl
       ·cases hw
theorem coper_some {nt:Nat} {ops:Array Oper} {o:Oper} {i:IOper} (h:coper P nt ops o=some i) :
  cop P o.op=some i.op∧cguard ops o.guard=some i.guard∧i.dst=o.dst∧∀ d,o.dst=some d→d<nt:=by
 unfold coper at h
 split at h
 ·rename_i j g h1 h2
  split at h
  ·rename_i hd
   cases h
   refine ⟨h1,h2,rfl,fun d he=>?_⟩
   rw [he] at hd
   exact Nat.le_of_ble_eq_true hd
  ·cases h
 ·cases h
theorem copers_get {nt:Nat} {ops:Array Oper}:∀ {l:List Oper} {is:List IOper},copers P nt ops l=some is→is.length=l.length∧∀ (k:Nat) o,l[k]?=some o→∃ i,is[k]?=some i∧coper P nt ops o=some i
 | [],is,h=>by simp [copers] at h;subst h;simp
 | o::l,is,h=>by
   unfold copers at h
   split at h
   ·cases h
   ·rename_i i hi
    split at h
    ·cases h
    ·rename_i r hr
     cases h
     obtain ⟨h1,h2⟩:=copers_get hr
     refine ⟨by simp [h1],fun k o' hk=>?_⟩
     cases k with
     | zero=>simp at hk;subst hk;exact ⟨i,rfl,hi⟩
     | succ k=>exact h2 k o' (by simpa using hk)
theorem ok_all {i:IOp} (hr:Rel P β H w) (ho:i.opnds.all (opOk P)=true) (he:∀ t,(.tmp t)∈i.opnds→∀ v,E.get t=some v→VR β v (a.tmps.getD t undef)):∀ x∈i.opnds,Ok1 β E a x:=fun x hx=>
 ok1_of hr.glob (List.all_eq_true.1 ho x hx) (fun t v e h=>he t (by rw [←e];exact hx) v h)
theorem AP.min {H H1:AH} (h:AP { H with wl:=H.n } H1):AP H { H1 with wl:=min H.wl H1.wl }:=
 ⟨h.mono,Nat.min_le_left _ _,fun id g1 g2=>h.keep id g1 (Nat.lt_of_lt_of_le g2 (Nat.min_le_right _ _)),h.live,h.lt⟩
theorem evOps_ap (hF:SimF P call):∀ {is:List IOper} {E E':Env} {H H':AH} {fl:List (Bool×Bool)},evOps call is E H=some (E',H',fl)→AP H H'
 | [],E,E',H,H',fl,he=>by simp only [evOps,Option.some.injEq,Prod.mk.injEq] at he;obtain ⟨_,rfl,_⟩:=he;exact AP.refl _
 | i::is,E,E',H,H',fl,he=>by
   simp only [evOps] at he
   split at he
   ·cases he
   ·rw [cond_eq_ite] at he
    split at he
    ·split at he
     ·cases he
     ·rename_i v H1 hs
      split at he
      ·cases he
      ·rename_i E2 H2 fl2 hrec
       simp only [Option.some.injEq,Prod.mk.injEq] at he
       obtain ⟨_,rfl,_⟩:=he
       exact (AP.min (stepOp_ap hF hs)).trans (evOps_ap hF hrec)
    ·split at he
     ·cases he
     ·rename_i v H1 hs
      split at he
      ·cases he
      ·rename_i E2 H2 fl2 hrec
       simp only [Option.some.injEq,Prod.mk.injEq] at he
       obtain ⟨_,rfl,_⟩:=he
       exact (stepOp_ap hF hs).trans (evOps_ap hF hrec)
   ·split at he
    ·cases he
    ·rename_i E2 H2 fl2 hrec
     simp only [Option.some.injEq,Prod.mk.injEq] at he
     obtain ⟨_,rfl,_⟩:=he
     exact evOps_ap hF hrec
theorem ops_sim (hF:SimF P call) {nt:Nat} {ops:Array Oper} {Q:Exit→Act→World→Prop}:∀ {l:List Oper} {is:List IOper} {E E':Env} {H H':AH} {fl:List (Bool×Bool)} {β:BM} {a:Act} {w:World},
  copers P nt ops l=some is→evOps call is E H=some (E',H',fl)→EnvRel β E a→nt≤a.tmps.size→a.defers=ds→Rel P β H w→(∀ id,H.n≤id→id<H'.n→β id=none) →
  (∀ β' a' w',EnvRel β' E' a'→nt≤a'.tmps.size→a'.defers=ds→Post P β H w β' H' w'→Q .normal a' w')→wpList P ops Q l a w
 | [],is,E,E',H,H',fl,β,a,w,hc,he,henv,hnt,hdf,hr,hn,hQ=>by
   simp [copers] at hc
   subst hc
   simp only [evOps,Option.some.injEq,Prod.mk.injEq] at he
   obtain ⟨rfl,rfl,_⟩:=he
   exact wpList_nil (hQ β a w henv hnt hdf (Post.refl hr))
 | o::l,is,E,E',H,H',fl,β,a,w,hc,he,henv,hnt,hdf,hr,hn,hQ=>by
   unfold copers at hc
   split at hc
   ·cases hc
   ·rename_i i hi
    split at hc
    ·cases hc
    ·rename_i r hrest
     cases hc
     obtain ⟨h1,h2,h3,h4⟩:=coper_some hi
     obtain ⟨h1,hall⟩:=cop_some h1
     have hds:∀ x,o.dst=some x→x<a.tmps.size:=fun x e=>Nat.lt_of_lt_of_le (h4 x e) hnt
     simp only [evOps] at he
     split at he
     ·cases he
     ·rename_i hwant
      have hw:=wanted_sim (a:=a) (β:=β) h2 hwant (fun t x v _ e=>henv t v e)
      rw [cond_eq_ite] at he
      split at he
      ·split at he
       ·cases he
       ·rename_i v H1 hs
        split at he
        ·cases he
        ·rename_i E2 H2 fl2 hrec
         simp only [Option.some.injEq,Prod.mk.injEq] at he
         obtain ⟨rfl,rfl,_⟩:=he
         have hap:=stepOp_ap hF hs
         have hap1:=AP.min hap
         have hap2:=evOps_ap hF hrec
         refine wpList_step fun K hK=>?_
         rw [if_pos hw]
         refine step_sim hF h1 (ok_all hr hall (fun t _ v e=>henv t v e)) hs (hr.wl H.n) (fun id e1 e2=>hn id e1 (Nat.lt_of_lt_of_le e2 hap2.mono)) ?_
         intro v' w' β' hv hp
         have hp':Post P β H w β' { H1 with wl:=min H.wl H1.wl } w':=Post.wl (x:=H.n) hp
         refine hK _ _ (ops_sim hF hrest hrec (a:=a.put o.dst v') (by rw [h3];exact (henv.mono hp.ext).put hds hv) (by rw [size_put];exact hnt) (by rw [defers_put];exact hdf) hp'.rel ?_ ?_)
         ·intro id e1 e2
          rw [hp'.old id (.inr e1)]
          exact hn id (Nat.le_trans hap1.mono e1) e2
         ·intro β2 a2 w2 k1 k2 k3 k4
          exact hQ β2 a2 w2 k1 k2 k3 (Post.trans hap1 hap2 hn hp' k4)
      ·split at he
       ·cases he
       ·rename_i v H1 hs
        split at he
        ·cases he
        ·rename_i E2 H2 fl2 hrec
         simp only [Option.some.injEq,Prod.mk.injEq] at he
         obtain ⟨rfl,rfl,_⟩:=he
         have hap1:=stepOp_ap hF hs
         have hap2:=evOps_ap hF hrec
         refine wpList_step fun K hK=>?_
         rw [if_pos hw]
         refine step_sim hF h1 (ok_all hr hall (fun t _ v e=>henv t v e)) hs hr (fun id e1 e2=>hn id e1 (Nat.lt_of_lt_of_le e2 hap2.mono)) ?_
         intro v' w' β' hv hp'
         refine hK _ _ (ops_sim hF hrest hrec (a:=a.put o.dst v') (by rw [h3];exact (henv.mono hp'.ext).put hds hv) (by rw [size_put];exact hnt) (by rw [defers_put];exact hdf) hp'.rel ?_ ?_)
         ·intro id e1 e2
          rw [hp'.old id (.inr e1)]
          exact hn id (Nat.le_trans hap1.mono e1) e2
         ·intro β2 a2 w2 k1 k2 k3 k4
          exact hQ β2 a2 w2 k1 k2 k3 (Post.trans hap1 hap2 hn hp' k4)
     ·rename_i hwant
      have hw:=wanted_sim (a:=a) (β:=β) h2 hwant (fun t x v _ e=>henv t v e)
      split at he
      ·cases he
      ·rename_i E2 H2 fl2 hrec
       simp only [Option.some.injEq,Prod.mk.injEq] at he
       obtain ⟨rfl,rfl,_⟩:=he
       refine wpList_step fun K hK=>?_
       rw [if_neg (by rw [hw];decide)]
       refine hK _ _ (ops_sim hF hrest hrec (a:=a.put o.dst undef) (by rw [h3];exact henv.put hds (.tuple .nil)) (by rw [size_put];exact hnt) (by rw [defers_put];exact hdf) hr hn hQ)
end
end Go.AL
end
section
set_option linter.unusedSimpArgs false
set_option linter.unusedVariables false
set_option maxHeartbeats 1000000
namespace Go.AL
section
variable {P:Program} {call:Call}
structure Trace0 (call:Call) (is:List IOper) (fl:List (Bool×Bool)) (Es:Nat→Env) (Hs:Nat→AH) (vs:Nat→Value):Prop where
 len:fl.length=is.length
 step:∀ (k:Nat) (o:IOper),is[k]?=some o→Es (k+1)=put (Es k) o.dst (vs k) ∧
  ((wanted (Es k) o.guard=some true∧o.op.wrt=true∧∃ H1,stepOp call (Es k) { Hs k with wl:=(Hs k).n } o.op=some (vs k,H1)∧Hs (k+1)={ H1 with wl:=min (Hs k).wl H1.wl }∧fl[k]?=some (true,Nat.blt H1.wl (Hs k).n)) ∨
   (wanted (Es k) o.guard=some true∧o.op.wrt=false∧stepOp call (Es k) (Hs k) o.op=some (vs k,Hs (k+1))∧fl[k]?=some (o.op.touch,false)) ∨
   (wanted (Es k) o.guard=some false∧vs k=undefA∧Hs (k+1)=Hs k∧fl[k]?=some (false,false)))
def Still (Es:Nat→Env) (Hs:Nat→AH) (n k:Nat) (op:IOp):Prop:=∃ g x ad,op=.load g x∧ev (Es k) x=some (.pointer (some ad))∧∀ e,e≤n→(Hs e).t.get ad.block=(Hs k).t.get ad.block
structure Trace (call:Call) (is:List IOper) (fl:List (Bool×Bool)) (Es:Nat→Env) (Hs:Nat→AH) (vs:Nat→Value):Prop where
 len:fl.length=is.length
 step:∀ (k:Nat) (o:IOper),is[k]?=some o→Es (k+1)=put (Es k) o.dst (vs k) ∧
  ((wanted (Es k) o.guard=some true∧o.op.wrt=true∧∃ H1,stepOp call (Es k) { Hs k with wl:=(Hs k).n } o.op=some (vs k,H1)∧Hs (k+1)={ H1 with wl:=min (Hs k).wl H1.wl }∧fl[k]?=some (true,Nat.blt H1.wl (Hs k).n)) ∨
   (wanted (Es k) o.guard=some true∧o.op.wrt=false∧stepOp call (Es k) (Hs k) o.op=some (vs k,Hs (k+1))∧∃ f,fl[k]?=some (f,false)∧(f=o.op.touch∨(f=false∧Still Es Hs is.length k o.op))) ∨
   (wanted (Es k) o.guard=some false∧vs k=undefA∧Hs (k+1)=Hs k∧fl[k]?=some (false,false)))
theorem Trace0.weak {is:List IOper} {fl:List (Bool×Bool)} {Es:Nat→Env} {Hs:Nat→AH} {vs:Nat→Value} (tr:Trace0 call is fl Es Hs vs):Trace call is fl Es Hs vs:=
 ⟨tr.len,fun k o hk=>by
  obtain ⟨h1,h2⟩:=tr.step k o hk
  refine ⟨h1,?_⟩
  rcases h2 with h2 | ⟨a,b,c,d⟩ | h2
  ·exact .inl h2
  ·exact .inr (.inl ⟨a,b,c,_,d,.inl rfl⟩)
  ·exact .inr (.inr h2)⟩
theorem trace_of:∀ {is:List IOper} {E E':Env} {H H':AH} {fl:List (Bool×Bool)},evOps call is E H=some (E',H',fl) →
  ∃ (Es:Nat→Env) (Hs:Nat→AH) (vs:Nat→Value),Es 0=E∧Hs 0=H∧Es is.length=E'∧Hs is.length=H'∧Trace0 call is fl Es Hs vs
 | [],E,E',H,H',fl,he=>by
   simp only [evOps,Option.some.injEq,Prod.mk.injEq] at he
   obtain ⟨rfl,rfl,rfl⟩:=he
   exact ⟨fun _=>E,fun _=>H,fun _=>undefA,rfl,rfl,rfl,rfl,rfl,fun k o h=>by simp at h⟩
 | i::is,E,E',H,H',fl,he=>by
   have shift:∀ {E1:Env} {H1:AH} {v:Value} {f:Bool×Bool} {fl2:List (Bool×Bool)} {E2:Env} {H2:AH},evOps call is E1 H1=some (E2,H2,fl2)→E1=put E i.dst v →
     ((wanted E i.guard=some true∧i.op.wrt=true∧∃ Hx,stepOp call E { H with wl:=H.n } i.op=some (v,Hx)∧H1={ Hx with wl:=min H.wl Hx.wl }∧f=(true,Nat.blt Hx.wl H.n))∨(wanted E i.guard=some true∧i.op.wrt=false∧stepOp call E H i.op=some (v,H1)∧f=(i.op.touch,false))∨(wanted E i.guard=some false∧v=undefA∧H1=H∧f=(false,false))) →
     ∃ (Es:Nat→Env) (Hs:Nat→AH) (vs:Nat→Value),Es 0=E∧Hs 0=H∧Es (i::is).length=E2∧Hs (i::is).length=H2∧Trace0 call (i::is) (f::fl2) Es Hs vs:=by
    intro E1 H1 v f fl2 E2 H2 hrec hE hh
    obtain ⟨Es,Hs,vs,e1,e2,e3,e4,tr⟩:=trace_of hrec
    refine ⟨fun k=>match k with | 0=>E | k+1=>Es k,fun k=>match k with | 0=>H | k+1=>Hs k,fun k=>match k with | 0=>v | k+1=>vs k,rfl,rfl,e3,e4,by simp [tr.len],?_⟩
    intro k o hk
    cases k with
    | zero=>
      simp at hk
      subst hk
      refine ⟨by simp only [e1];exact hE,?_⟩
      rcases hh with ⟨g1,g5,Hx,g2,g3,g4⟩ | ⟨g1,g5,g2,g4⟩ | ⟨g1,g2,g3,g4⟩
      ·exact .inl ⟨g1,g5,Hx,g2,by simp only [e2];exact g3,by simp [g4]⟩
      ·exact .inr (.inl ⟨g1,g5,by simp only [e2];exact g2,by simp [g4]⟩)
      ·exact .inr (.inr ⟨g1,g2,by simp only [e2];exact g3,by simp [g4]⟩)
    | succ k=>
      have:=tr.step k o (by simpa using hk)
      simpa using this
   simp only [evOps] at he
   split at he
   ·cases he
   ·rename_i hw
    rw [cond_eq_ite] at he
    split at he
    ·rename_i hwrt
     split at he
     ·cases he
     ·rename_i v H1 hs
      split at he
      ·cases he
      ·rename_i E2 H2 fl2 hrec
       simp only [Option.some.injEq,Prod.mk.injEq] at he
       obtain ⟨rfl,rfl,rfl⟩:=he
       exact shift hrec rfl (.inl ⟨hw,hwrt,H1,hs,rfl,rfl⟩)
    ·rename_i hwrt
     split at he
     ·cases he
     ·rename_i v H1 hs
      split at he
      ·cases he
      ·rename_i E2 H2 fl2 hrec
       simp only [Option.some.injEq,Prod.mk.injEq] at he
       obtain ⟨rfl,rfl,rfl⟩:=he
       exact shift hrec rfl (.inr (.inl ⟨hw,by simpa using hwrt,hs,rfl⟩))
   ·rename_i hw
    split at he
    ·cases he
    ·rename_i E2 H2 fl2 hrec
     simp only [Option.some.injEq,Prod.mk.injEq] at he
     obtain ⟨rfl,rfl,rfl⟩:=he
     exact shift hrec rfl (.inr (.inr ⟨hw,rfl,rfl,rfl⟩))
variable {is:List IOper} {fl:List (Bool×Bool)} {Es:Nat→Env} {Hs:Nat→AH} {vs:Nat→Value}
theorem load_same {call:Call} {E:Env} {H H1:AH} {g:Option Nat} {x:Operand} {v:Value} (h:stepOp call E H (.load g x)=some (v,H1)):H1=H:=by
 simp only [stepOp,IOp.touch,cond_true,hop] at h
 split at h
 ·split at h
  ·cases h
  ·split at h
   ·cases h
   ·simp only [Option.some.injEq,Prod.mk.injEq] at h;exact h.2.symm
 ·cases h
def wr (fl:List (Bool×Bool)) (k:Nat):Bool:=(fl.getD k (false,false)).2
def tc (fl:List (Bool×Bool)) (k:Nat):Bool:=(fl.getD k (false,false)).1
theorem Trace.ap1 (tr:Trace call is fl Es Hs vs) (hF:SimF P call) {k:Nat} (hk:k<is.length):AP (Hs k) (Hs (k+1)):=by
 obtain ⟨_,hh⟩:=tr.step k is[k] (List.getElem?_eq_getElem hk)
 rcases hh with ⟨_,_,H1,h1,h2,_⟩ | ⟨_,_,h1,_⟩ | ⟨_,_,h2,_⟩
 ·rw [h2];exact AP.min (stepOp_ap hF h1)
 ·exact stepOp_ap hF h1
 ·rw [h2];exact AP.refl _
theorem Trace.ap (tr:Trace call is fl Es Hs vs) (hF:SimF P call) {i j:Nat} (hij:i≤j) (hj:j≤is.length):AP (Hs i) (Hs j):=by
 induction j with
 | zero=>have:i=0:=by omega
         subst this;exact AP.refl _
 | succ j ih=>
   by_cases h:i=j+1
   ·subst h;exact AP.refl _
   ·exact (ih (by omega) (by omega)).trans (tr.ap1 hF (by omega))
theorem Trace.keep1 (tr:Trace call is fl Es Hs vs) (hF:SimF P call) {k:Nat} (hk:k<is.length) (hw:wr fl k=false):∀ id,id<(Hs k).n→(Hs (k+1)).t.get id=(Hs k).t.get id:=by
 obtain ⟨_,hh⟩:=tr.step k is[k] (List.getElem?_eq_getElem hk)
 rcases hh with ⟨_,_,H1,h1,h2,h3⟩ | ⟨_,hnw,h1,_⟩ | ⟨_,_,h2,_⟩
 rotate_left
 ·exact stepOp_keep hnw h1
 rotate_left
 ·intro id hid
  rw [h2]
  have hb:Nat.blt H1.wl (Hs k).n=false:=by
   unfold wr at hw
   rw [List.getD_eq_getElem?_getD,h3] at hw
   simpa using hw
  have hge:(Hs k).n≤H1.wl:=by
   rcases Nat.lt_or_ge H1.wl (Hs k).n with h' | h'
   ·have:Nat.blt H1.wl (Hs k).n=true:=Nat.ble_eq_true_of_le h'
    rw [hb] at this;cases this
   ·exact h'
  exact (stepOp_ap hF h1).keep id hid (Nat.lt_of_lt_of_le hid hge)
 ·intro id _;rw [h2]
theorem Trace.keep (tr:Trace call is fl Es Hs vs) (hF:SimF P call) {i j:Nat} (hij:i≤j) (hj:j≤is.length) (hw:∀ k,i≤k→k<j→wr fl k=false) :
  ∀ id,id<(Hs i).n→(Hs j).t.get id=(Hs i).t.get id:=by
 induction j with
 | zero=>intro id _;have:i=0:=by omega
         subst this;rfl
 | succ j ih=>
   by_cases h:i=j+1
   ·subst h;intro id _;rfl
   ·intro id hid
    have h1:=ih (by omega) (by omega) (fun k e1 e2=>hw k e1 (by omega)) id hid
    have hm:=(tr.ap hF (show i≤j by omega) (by omega)).mono
    rw [tr.keep1 hF (by omega) (hw j (by omega) (by omega)) id (by omega),h1]
theorem Trace.pure (tr:Trace call is fl Es Hs vs) {k:Nat} (hk:k<is.length) (ht:tc fl k=false):(Hs (k+1)).t=(Hs k).t∧(Hs (k+1)).n=(Hs k).n:=by
 obtain ⟨_,hh⟩:=tr.step k is[k] (List.getElem?_eq_getElem hk)
 rcases hh with ⟨_,_,H1,h1,h2,h3⟩ | ⟨_,_,h1,f,h3,h5⟩ | ⟨_,_,h2,_⟩
 ·unfold tc at ht
  rw [List.getD_eq_getElem?_getD,h3] at ht
  cases ht
 ·have hf:f=false:=by
   unfold tc at ht
   rw [List.getD_eq_getElem?_getD,h3] at ht
   simpa using ht
  rcases h5 with h5 | ⟨_,g,x,ad,h6,_⟩
  ·obtain ⟨_,h4⟩:=stepOp_pure (h5.symm.trans hf) h1
   rw [h4];exact ⟨rfl,rfl⟩
  ·rw [h6] at h1
   rw [load_same h1];exact ⟨rfl,rfl⟩
 ·rw [h2];exact ⟨rfl,rfl⟩
theorem Trace.pure_wr (tr:Trace call is fl Es Hs vs) {k:Nat} (hk:k<is.length) (ht:tc fl k=false):wr fl k=false:=by
 obtain ⟨_,hh⟩:=tr.step k is[k] (List.getElem?_eq_getElem hk)
 rcases hh with ⟨_,_,H1,h1,h2,h3⟩ | ⟨_,_,h1,f,h3,_⟩ | ⟨_,_,h2,h3⟩
 ·unfold tc at ht
  rw [List.getD_eq_getElem?_getD,h3] at ht
  cases ht
 ·unfold wr
  rw [List.getD_eq_getElem?_getD,h3]
  rfl
 ·unfold wr
  rw [List.getD_eq_getElem?_getD,h3]
  rfl
theorem wr_lt {k:Nat} (tr:Trace call is fl Es Hs vs) (h:wr fl k=true):k<is.length:=by
 rcases Nat.lt_or_ge k is.length with h' | h'
 ·exact h'
 ·unfold wr at h
  rw [List.getD_eq_getElem?_getD,List.getElem?_eq_none (by rw [tr.len];exact h')] at h
  cases h
theorem Trace.locate (tr:Trace call is fl Es Hs vs) (hF:SimF P call) {i m:Nat} (him:i≤m) (hm:m≤is.length) {id:Nat} (h1:(Hs i).n≤id) (h2:id<(Hs m).n):∃ j,i≤j∧j<m∧(Hs j).n≤id∧id<(Hs (j+1)).n:=by
 induction m with
 | zero=>have:i=0:=by omega
         subst this;omega
 | succ m ih=>
   by_cases h:i=m+1
   ·subst h;omega
   ·rcases Nat.lt_or_ge id (Hs m).n with h' | h'
    ·obtain ⟨j,e1,e2,e3,e4⟩:=ih (by omega) (by omega) h'
     exact ⟨j,e1,by omega,e3,e4⟩
    ·exact ⟨m,by omega,by omega,h',h2⟩
theorem next_wr (fl:List (Bool×Bool)) (n:Nat):∀ d m,m+d=n→∃ e,m≤e∧e≤n∧(∀ k,m≤k→k<e→wr fl k=false)∧(e<n→wr fl e=true)
 | 0,m,h=>⟨m,Nat.le_refl _,by omega,fun k e1 e2=>by omega,fun h'=>by omega⟩
 | d+1,m,h=>by
   cases hw:wr fl m with
   | true=>exact ⟨m,Nat.le_refl _,by omega,fun k e1 e2=>by omega,fun _=>hw⟩
   | false=>
     obtain ⟨e,e1,e2,e3,e4⟩:=next_wr fl n d (m+1) (by omega)
     refine ⟨e,by omega,e2,fun k k1 k2=>?_,e4⟩
     by_cases hk:k=m
     ·subst hk;exact hw
     ·exact e3 k (by omega) k2
theorem mark_length (n:Nat) (E:Env):∀ (is:List IOper) (fl:List (Bool×Bool)),(mark n E is fl).length=fl.length
 | [],fl=>by unfold mark;rfl
 | o::os,[]=>by unfold mark;rfl
 | o::os,f::fs=>by unfold mark;rw [List.length_cons,List.length_cons,mark_length n E os fs]
theorem mark_get (n:Nat) (E:Env):∀ (is:List IOper) (fl:List (Bool×Bool)) (k:Nat) (o:IOper) (f:Bool×Bool),is[k]?=some o→fl[k]?=some f→(mark n E is fl)[k]?=some (bif oldLoad n E o (is.drop (k+1)) then (false,f.2) else f)
 | [],fl,k,o,f,h,_=>by simp at h
 | x::os,[],k,o,f,_,h=>by simp at h
 | x::os,y::fs,0,o,f,h1,h2=>by
   simp at h1 h2
   subst h1 h2
   unfold mark
   rfl
 | x::os,y::fs,k+1,o,f,h1,h2=>by
   unfold mark
   rw [List.getElem?_cons_succ,List.drop_succ_cons]
   exact mark_get n E os fs k o f (by simpa using h1) (by simpa using h2)
theorem tmp_end (tr:Trace call is fl Es Hs vs) {t:Nat}:∀ (d k:Nat),k+d=is.length→(∀ o∈is.drop k,o.dst≠some t)→(Es is.length).get t=(Es k).get t
 | 0,k,h,_=>by rw [show k=is.length by omega]
 | d+1,k,h,hno=>by
   have hk:k<is.length:=by omega
   obtain ⟨he,_⟩:=tr.step k is[k] (List.getElem?_eq_getElem hk)
   rw [List.drop_eq_getElem_cons hk] at hno
   rw [tmp_end tr d (k+1) (by omega) (fun o ho=>hno o (List.mem_cons_of_mem _ ho)),he]
   have:=hno is[k] List.mem_cons_self
   cases hd:is[k].dst with
   | none=>rfl
   | some u=>
     show ((Es k).set u _).get t=_
     rw [T.get_set_ne _ _ (fun e=>this (by rw [hd,e]))]
theorem Trace0.marked (tr:Trace0 call is fl Es Hs vs) (hF:SimF P call) (hwl:(Hs 0).n≤(Hs is.length).wl):Trace call is (mark (Hs 0).n (Es is.length) is fl) Es Hs vs:=by
 refine ⟨by rw [mark_length];exact tr.len,fun k o hk=>?_⟩
 have hkl:=(List.getElem?_eq_some_iff.1 hk).1
 obtain ⟨h1,h2⟩:=tr.step k o hk
 refine ⟨h1,?_⟩
 have keep:∀ f,o.op.wrt=true→fl[k]?=some f→(mark (Hs 0).n (Es is.length) is fl)[k]?=some f:=by
  intro f hw hf
  rw [mark_get _ _ _ _ _ _ _ hk hf]
  have:oldLoad (Hs 0).n (Es is.length) o (is.drop (k+1))=false:=by
   unfold oldLoad
   split
   ·rename_i g t he
    rw [he] at hw;cases hw
   ·rfl
  rw [this];rfl
 rcases h2 with ⟨a,b,H1,c,d,e⟩ | ⟨a,b,c,d⟩ | ⟨a,b,c,d⟩
 ·exact .inl ⟨a,b,H1,c,d,keep _ b e⟩
 ·refine .inr (.inl ⟨a,b,c,?_⟩)
  rw [mark_get _ _ _ _ _ _ _ hk d]
  cases ho:oldLoad (Hs 0).n (Es is.length) o (is.drop (k+1)) with
  | false=>exact ⟨_,rfl,.inl rfl⟩
  | true=>
    refine ⟨false,rfl,.inr ⟨rfl,?_⟩⟩
    unfold oldLoad at ho
    split at ho
    ·rename_i g t he
     split at ho
     ·rename_i ad ht
      simp only [Bool.and_eq_true] at ho
      obtain ⟨hlt,hall⟩:=ho
      have hlt:ad.block<(Hs 0).n:=Nat.le_of_ble_eq_true hlt
      have hdrop:is.drop k=o::is.drop (k+1):=by
       rw [List.drop_eq_getElem_cons hkl]
       congr 1
       rw [List.getElem?_eq_getElem hkl] at hk
       exact Option.some.inj hk
      have hno:∀ p∈is.drop k,p.dst≠some t:=by
       intro p hp hd
       rw [hdrop] at hp
       have:=List.all_eq_true.1 hall p hp
       rw [hd] at this
       simp only [Nat.beq_refl,Bool.not_true,Bool.false_eq_true] at this
      have hE:=tmp_end tr.weak (is.length-k) k (by omega) hno
      have stay:∀ e,e≤is.length→(Hs e).t.get ad.block=(Hs 0).t.get ad.block:=by
       intro e he'
       have ap1:=tr.weak.ap hF (Nat.zero_le e) he'
       have ap2:=tr.weak.ap hF he' (Nat.le_refl _)
       exact ap1.keep _ hlt (Nat.lt_of_lt_of_le hlt (Nat.le_trans hwl ap2.wl))
      exact ⟨g,.tmp t,ad,he,by show (Es k).get t=_;rw [←hE];exact ht,fun e he'=>by rw [stay e he',stay k (by omega)]⟩
     ·cases ho
    ·cases ho
 ·refine .inr (.inr ⟨a,b,c,?_⟩)
  rw [mark_get _ _ _ _ _ _ _ hk d]
  cases oldLoad (Hs 0).n (Es is.length) o (is.drop (k+1))<;>rfl
theorem mark2_length (n:Nat) (E:Env) (wl:Nat) (all:List IOper) (fa:List (Bool×Bool)):∀ (is:List IOper) (fl:List (Bool×Bool)),(mark2 n E wl all fa is fl).length=fl.length
 | [],fl=>by unfold mark2;rfl
 | o::os,[]=>by unfold mark2;rfl
 | o::os,f::fs=>by unfold mark2;rw [List.length_cons,List.length_cons,mark2_length n E wl all fa os fs]
theorem mark2_get (n:Nat) (E:Env) (wl:Nat) (all:List IOper) (fa:List (Bool×Bool)):∀ (is:List IOper) (fl:List (Bool×Bool)) (k:Nat) (o:IOper) (f:Bool×Bool),is[k]?=some o→fl[k]?=some f→(mark2 n E wl all fa is fl)[k]?=some (bif (oldLoad n E o (is.drop (k+1))&&(match loadBlk E o.op with
  | some b=>missed b E wl all fa
  | none=>false)) then (false,f.2) else f)
 | [],fl,k,o,f,h,_=>by simp at h
 | x::os,[],k,o,f,_,h=>by simp at h
 | x::os,y::fs,0,o,f,h1,h2=>by
   simp at h1 h2
   subst h1 h2
   unfold mark2
   rfl
 | x::os,y::fs,k+1,o,f,h1,h2=>by
   unfold mark2
   rw [List.getElem?_cons_succ,List.drop_succ_cons]
   exact mark2_get n E wl all fa os fs k o f (by simpa using h1) (by simpa using h2)
theorem missed_get {b:Nat} {E:Env} {wl:Nat}:∀ {is:List IOper} {fl:List (Bool×Bool)} {k:Nat} {o:IOper} {f:Bool×Bool},missed b E wl is fl=true→is[k]?=some o→fl[k]?=some f →
  (f.2=false∨b<wl∨∃ t b',tgtOf E o.op=some (t,b')∧b'≠b∧∀ p∈is.drop k,p.dst≠some t)
 | [],fl,k,o,f,_,h,_=>by simp at h
 | x::os,[],k,o,f,_,_,h=>by simp at h
 | x::os,y::fs,0,o,f,hm,h1,h2=>by
   simp at h1 h2
   subst h1 h2
   unfold missed at hm
   simp only [Bool.and_eq_true,Bool.or_eq_true,Bool.not_eq_true'] at hm
   rcases hm.1 with h | h | h
   ·exact .inl h
   ·exact .inr (.inl (Nat.le_of_ble_eq_true h))
   ·refine .inr (.inr ?_)
    split at h
    ·rename_i t b' ht
     simp only [Bool.and_eq_true,Bool.not_eq_true'] at h
     refine ⟨t,b',ht,fun e=>?_,?_⟩
     ·rw [e,Nat.beq_refl] at h;exact absurd h.1 (by decide)
     ·intro p hp hd
      have:=List.all_eq_true.1 h.2 p hp
      rw [hd] at this
      simp only [Nat.beq_refl,Bool.not_true,Bool.false_eq_true] at this
    ·cases h
 | x::os,y::fs,k+1,o,f,hm,h1,h2=>by
   unfold missed at hm
   simp only [Bool.and_eq_true] at hm
   rw [List.drop_succ_cons]
   exact missed_get hm.2 (by simpa using h1) (by simpa using h2)
theorem tgt_keep {call:Call} {E:Env} {H H1:AH} {i:IOp} {v:Value} {t b b':Nat} (ht:tgtOf E i=some (t,b')) (hs:stepOp call E H i=some (v,H1)) (hb:b≠b') (hlt:b<H.n):H1.t.get b=H.t.get b:=by
 have hnew:∀ k,(H.new k).t.get b=H.t.get b:=fun k=>by simp only [AH.new];rw [T.get_set_ne _ _ (Nat.ne_of_lt hlt)]
 have hwr:∀ k,(H.write b' k).t.get b=H.t.get b:=fun k=>by simp only [AH.write];rw [T.get_set_ne _ _ hb]
 have hkn:∀ k,((H.kill b').new k).t.get b=H.t.get b:=fun k=>by simp only [AH.kill,AH.new];rw [T.get_set_ne _ _ (Nat.ne_of_lt hlt)];rw [T.get_del,if_neg hb]
 unfold tgtOf at ht
 split at ht
 ·rename_i sz u y
  split at ht
  ·rename_i ad he
   cases ht
   have he:ev E (.tmp t)=some (.pointer (some ad)):=he
   simp only [stepOp,IOp.touch,cond_true,hop,he,cond_eq_ite] at hs
   repeat' (split at hs)
   all_goals first
    | (cases hs;done)
    | (simp only [Option.some.injEq,Prod.mk.injEq] at hs;obtain ⟨_,rfl⟩:=hs;rename_i q _ _ _ _ _ _;cases q;exact hwr _)
    | (simp only [Option.some.injEq,Prod.mk.injEq] at hs;obtain ⟨_,rfl⟩:=hs;simp_all)
  ·cases ht
 ·rename_i esz y u x
  split at ht
  ·rename_i ad len cap he
   cases ht
   have he:ev E (.tmp t)=some (.slice (some ad) len cap):=he
   simp only [stepOp,IOp.touch,cond_true,hop,he,cond_eq_ite] at hs
   repeat' (split at hs)
   all_goals first
    | (cases hs;done)
    | (simp only [Option.some.injEq,Prod.mk.injEq] at hs;obtain ⟨_,rfl⟩:=hs;first | rfl | exact hnew _ | exact hkn _ | simp_all)
  ·cases ht
 ·rename_i esz u s
  split at ht
  ·rename_i ad len cap he
   cases ht
   have he:ev E (.tmp t)=some (.slice (some ad) len cap):=he
   simp only [stepOp,IOp.touch,cond_true,hop,he,cond_eq_ite] at hs
   repeat' (split at hs)
   all_goals first
    | (cases hs;done)
    | (simp only [Option.some.injEq,Prod.mk.injEq] at hs;obtain ⟨_,rfl⟩:=hs;first | rfl | exact hwr _ | simp_all)
  ·cases ht
 ·cases ht
theorem Trace0.marked2 (tr:Trace0 call is fl Es Hs vs) (hF:SimF P call):Trace call is (mark2 (Hs 0).n (Es is.length) (Hs is.length).wl is fl is fl) Es Hs vs:=by
 refine ⟨by rw [mark2_length];exact tr.len,fun k o hk=>?_⟩
 have hkl:=(List.getElem?_eq_some_iff.1 hk).1
 obtain ⟨h1,h2⟩:=tr.step k o hk
 refine ⟨h1,?_⟩
 have keep:∀ f,o.op.wrt=true→fl[k]?=some f→(mark2 (Hs 0).n (Es is.length) (Hs is.length).wl is fl is fl)[k]?=some f:=by
  intro f hw hf
  rw [mark2_get _ _ _ _ _ _ _ _ _ _ hk hf]
  have:oldLoad (Hs 0).n (Es is.length) o (is.drop (k+1))=false:=by
   unfold oldLoad
   split
   ·rename_i g t he
    rw [he] at hw;cases hw
   ·rfl
  rw [this];rfl
 rcases h2 with ⟨a,b,H1,c,d,e⟩ | ⟨a,b,c,d⟩ | ⟨a,b,c,d⟩
 ·exact .inl ⟨a,b,H1,c,d,keep _ b e⟩
 ·refine .inr (.inl ⟨a,b,c,?_⟩)
  rw [mark2_get _ _ _ _ _ _ _ _ _ _ hk d]
  cases ho:oldLoad (Hs 0).n (Es is.length) o (is.drop (k+1)) with
  | false=>exact ⟨_,rfl,.inl rfl⟩
  | true=>
    cases hm:(match loadBlk (Es is.length) o.op with
     | some b=>missed b (Es is.length) (Hs is.length).wl is fl
     | none=>false) with
    | false=>exact ⟨_,rfl,.inl rfl⟩
    | true=>
    refine ⟨false,rfl,.inr ⟨rfl,?_⟩⟩
    unfold oldLoad at ho
    split at ho
    ·rename_i g t he
     split at ho
     ·rename_i ad ht
      simp only [Bool.and_eq_true] at ho
      obtain ⟨hlt,hall⟩:=ho
      have hlt:ad.block<(Hs 0).n:=Nat.le_of_ble_eq_true hlt
      have hdrop:is.drop k=o::is.drop (k+1):=by
       rw [List.drop_eq_getElem_cons hkl]
       congr 1
       rw [List.getElem?_eq_getElem hkl] at hk
       exact Option.some.inj hk
      have hno:∀ p∈is.drop k,p.dst≠some t:=by
       intro p hp hd
       rw [hdrop] at hp
       have:=List.all_eq_true.1 hall p hp
       rw [hd] at this
       simp only [Nat.beq_refl,Bool.not_true,Bool.false_eq_true] at this
      have hE:=tmp_end tr.weak (is.length-k) k (by omega) hno
      have hmiss:missed ad.block (Es is.length) (Hs is.length).wl is fl=true:=by
       rw [he] at hm
       simp only [loadBlk,ht] at hm
       exact hm
      have stay:∀ e,e≤is.length→(Hs e).t.get ad.block=(Hs 0).t.get ad.block:=by
       intro e
       induction e with
       | zero=>intro _;rfl
       | succ e ih=>
         intro he'
         rw [←ih (by omega)]
         have hne:e<is.length:=by omega
         have ho':=List.getElem?_eq_getElem hne
         have ap1:=(tr.weak.ap hF (Nat.zero_le e) (Nat.le_of_lt hne)).mono
         have hlt':ad.block<(Hs e).n:=by omega
         obtain ⟨_,q⟩:=tr.step e is[e] ho'
         rcases q with ⟨a',b',H1',c',d',e'⟩ | ⟨a',b',c',d'⟩ | ⟨a',b',c',d'⟩
         ·rcases missed_get hmiss ho' e' with hf | hwl | ⟨t',b2,g1,g2,g3⟩
          ·have hap:=stepOp_ap hF c'
           have hge:(Hs e).n≤H1'.wl:=by
            have:¬ H1'.wl<(Hs e).n:=fun hh=>by
             have:=Nat.ble_eq_true_of_le hh
             simp only at hf
             rw [show Nat.blt H1'.wl (Hs e).n=true from this] at hf
             cases hf
            omega
           rw [d']
           exact hap.keep _ hlt' (Nat.lt_of_lt_of_le hlt' hge)
          ·have hap:=stepOp_ap hF c'
           have ap2:=(tr.weak.ap hF (show e+1≤is.length by omega) (Nat.le_refl _)).wl
           rw [d'] at ap2
           have ap2:(Hs is.length).wl≤min (Hs e).wl H1'.wl:=ap2
           rw [d']
           exact hap.keep _ hlt' (by omega)
          ·have hEe:=tmp_end tr.weak (is.length-e) e (by omega) g3
           have g1':tgtOf (Es e) is[e].op=some (t',b2):=by
            unfold tgtOf at g1 ⊢
            split at g1
            ·split at g1
             ·rename_i hx;cases g1;rw [hEe] at hx;rw [hx]
             ·cases g1
            ·split at g1
             ·rename_i hx;cases g1;rw [hEe] at hx;rw [hx]
             ·cases g1
            ·split at g1
             ·rename_i hx;cases g1;rw [hEe] at hx;rw [hx]
             ·cases g1
            ·cases g1
           rw [d']
           exact tgt_keep (H:={ Hs e with wl:=(Hs e).n }) (H1:=H1') g1' c' (fun e=>g2 e.symm) hlt'
         ·exact stepOp_keep b' c' _ hlt'
         ·rw [c']
      exact ⟨g,.tmp t,ad,he,by show (Es k).get t=_;rw [←hE];exact ht,fun e he'=>by rw [stay e he',stay k (by omega)]⟩
     ·cases ho
    ·cases ho
 ·refine .inr (.inr ⟨a,b,c,?_⟩)
  rw [mark2_get _ _ _ _ _ _ _ _ _ _ hk d]
  generalize (oldLoad (Hs 0).n (Es is.length) o (is.drop (k+1))&&_)=q
  cases q<;>rfl
theorem Trace.env (tr:Trace call is fl Es Hs vs) {k:Nat} (hk:k≤is.length) (t:Nat) :
  (∃ j o,j<k∧is[j]?=some o∧o.dst=some t∧(Es k).get t=some (vs j)∧∀ j' o',j<j'→j'<k→is[j']?=some o'→o'.dst≠some t)∨((∀ j o,j<k→is[j]?=some o→o.dst≠some t)∧(Es k).get t=(Es 0).get t):=by
 induction k with
 | zero=>exact .inr ⟨fun j o h=>by omega,rfl⟩
 | succ k ih=>
   have hlt:k<is.length:=by omega
   obtain ⟨he,_⟩:=tr.step k is[k] (List.getElem?_eq_getElem hlt)
   have hg:(Es (k+1)).get t=if is[k].dst=some t then some (vs k) else (Es k).get t:=by rw [he,get_put]
   by_cases hd:is[k].dst=some t
   ·rw [if_pos hd] at hg
    exact .inl ⟨k,is[k],by omega,List.getElem?_eq_getElem hlt,hd,hg,fun j' o' h1 h2=>by omega⟩
   ·rw [if_neg hd] at hg
    rcases ih (by omega) with ⟨j,o,h1,h2,h3,h4,h5⟩ | ⟨h1,h2⟩
    ·refine .inl ⟨j,o,by omega,h2,h3,by rw [hg,h4],fun j' o' k1 k2 k3=>?_⟩
     by_cases hjk:j'=k
     ·subst hjk
      rw [List.getElem?_eq_getElem hlt] at k3
      cases k3;exact hd
     ·exact h5 j' o' k1 (by omega) k3
    ·refine .inr ⟨fun j o k1 k2=>?_,by rw [hg,h2]⟩
     by_cases hjk:j=k
     ·subst hjk
      rw [List.getElem?_eq_getElem hlt] at k2
      cases k2;exact hd
     ·exact h1 j o (by omega) k2
theorem upB_bit {bits:List Nat}:∀ {es:List Edge} {j:Nat},(upB bits es).testBit j=true→∃ e,e∈es∧Region.binds .any e=true∧(j=e.on∨(bits.getD e.on 0).testBit j=true)
 | [],j,h=>by simp [upB] at h
 | e::es,j,h=>by
   unfold upB at h
   split at h
   ·rename_i hb
    rw [Nat.testBit_or,Nat.testBit_or] at h
    simp only [Bool.or_eq_true] at h
    rcases h with (h | h) | h
    ·rw [Nat.testBit_two_pow] at h
     exact ⟨e,by simp,hb,.inl (of_decide_eq_true h).symm⟩
    ·exact ⟨e,by simp,hb,.inr h⟩
    ·obtain ⟨e',h1,h2,h3⟩:=upB_bit h
     exact ⟨e',by simp [h1],h2,h3⟩
   ·obtain ⟨e',h1,h2,h3⟩:=upB_bit h
    exact ⟨e',by simp [h1],h2,h3⟩
variable {ops:Array Oper} {bits:List Nat}
theorem bits_bit (hb:bitsOk ops bits=true) {d:Nat} {o:Oper} (ho:ops[d]?=some o) {j:Nat} (h:(bits.getD d 0).testBit j=true) :
  ∃ e∈o.after.toList,Region.binds .any e=true∧(j=e.on∨(bits.getD e.on 0).testBit j=true):=by
 have hd:=(Array.getElem?_eq_some_iff.1 ho).1
 have h1:=List.all_eq_true.1 hb d (List.mem_range.2 hd)
 rw [ho] at h1
 rw [Nat.eq_of_beq_eq_true h1] at h
 obtain ⟨e,e1,e2,e3⟩:=upB_bit h
 exact ⟨e,e1,e2,e3⟩
theorem edges_lt (he:edgesOk ops=true) {d:Nat} {o:Oper} (ho:ops[d]?=some o) {e:Edge} (h1:e∈o.after.toList) (h2:Region.binds .any e=true):e.on<d:=by
 have hd:=(Array.getElem?_eq_some_iff.1 ho).1
 have h:=List.all_eq_true.1 he d (List.mem_range.2 hd)
 rw [ho] at h
 simp only at h
 have:=Array.all_eq_true_iff_forall_mem.1 h e (Array.mem_toList_iff.1 h1)
 simpa [h2] using this
def ClosedL (ops:Array Oper) (b:Nat→Bool):Prop:=∀ d o,ops[d]?=some o→b d=true→∀ e∈o.after.toList,Region.binds .any e=true→b e.on=true
theorem closed_bit (hb:bitsOk ops bits=true) (he:edgesOk ops=true) {b:Nat→Bool} (hc:ClosedL ops b):∀ (m d:Nat),d≤m→d<ops.size→b d=true→∀ j,(bits.getD d 0).testBit j=true→b j=true:=by
 intro m
 induction m with
 | zero=>
   intro d hd hl hbd j hj
   have ho:ops[d]?=some ops[d]:=Array.getElem?_eq_getElem hl
   obtain ⟨e,e1,e2,e3⟩:=bits_bit hb ho hj
   have:=edges_lt he ho e1 e2
   omega
 | succ m ih=>
   intro d hd hl hbd j hj
   have ho:ops[d]?=some ops[d]:=Array.getElem?_eq_getElem hl
   obtain ⟨e,e1,e2,e3⟩:=bits_bit hb ho hj
   have hlt:=edges_lt he ho e1 e2
   have hbe:=hc d _ ho hbd e e1 e2
   rcases e3 with rfl | e3
   ·exact hbe
   ·exact ih e.on (by omega) (by omega) hbe j e3
theorem ready_bit (hb:bitsOk ops bits=true) (he:edgesOk ops=true) {b:Nat→Bool} (hc:ClosedL ops b) {i:Nat} {o:Oper} (ho:ops[i]?=some o) (hr:∀ e∈o.after.toList,Region.binds .any e=true→b e.on=true) {j:Nat} (hj:(bits.getD i 0).testBit j=true):b j=true:=by
 have hl:=(Array.getElem?_eq_some_iff.1 ho).1
 obtain ⟨e,e1,e2,e3⟩:=bits_bit hb ho hj
 have hlt:=edges_lt he ho e1 e2
 rcases e3 with rfl | e3
 ·exact hr e e1 e2
 ·exact closed_bit hb he hc e.on e.on (Nat.le_refl _) (by omega) (hr e e1 e2) j e3
theorem bits_lt (hb:bitsOk ops bits=true) (he:edgesOk ops=true):∀ (m d:Nat),d≤m→d<ops.size→∀ j,(bits.getD d 0).testBit j=true→j<d:=by
 intro m
 induction m with
 | zero=>
   intro d hd hl j hj
   have ho:ops[d]?=some ops[d]:=Array.getElem?_eq_getElem hl
   obtain ⟨e,e1,e2,e3⟩:=bits_bit hb ho hj
   have:=edges_lt he ho e1 e2
   omega
 | succ m ih=>
   intro d hd hl j hj
   have ho:ops[d]?=some ops[d]:=Array.getElem?_eq_getElem hl
   obtain ⟨e,e1,e2,e3⟩:=bits_bit hb ho hj
   have hlt:=edges_lt he ho e1 e2
   rcases e3 with rfl | e3
   ·exact hlt
   ·have:=ih e.on (by omega) (by omega) j e3
    omega
theorem pair_of (hd:okDraw bits fl=true) {i j:Nat} (hij:i<j) (hj:j<fl.length) (h:(wr fl i=true∧tc fl j=true)∨(tc fl i=true∧wr fl j=true)):(bits.getD j 0).testBit i=true:=by
 unfold okDraw at hd
 rw [Bool.or_eq_true] at hd
 rcases hd with hd | hd
 ·have hno:∀ k,wr fl k=false:=fun k=>by
   unfold wr
   rw [List.getD_eq_getElem?_getD]
   cases hk:fl[k]? with
   | none=>rfl
   | some x=>
     have:=List.all_eq_true.1 hd x (List.mem_of_getElem? hk)
     simpa using this
  rcases h with ⟨h,_⟩ | ⟨_,h⟩<;>rw [hno] at h<;>cases h
 ·have h1:=List.all_eq_true.1 hd j (List.mem_range.2 hj)
  have h2:=List.all_eq_true.1 h1 i (List.mem_range.2 hij)
  unfold pairOk at h2
  simp only [Bool.or_eq_true,Bool.not_eq_true',Bool.or_eq_false_iff,Bool.and_eq_false_iff] at h2
  rcases h2 with ⟨h3,h4⟩ | h2
  ·unfold wr tc at h
   rcases h with ⟨h,h'⟩ | ⟨h,h'⟩
   ·rcases h3 with h3 | h3
    ·rw [h] at h3;cases h3
    ·rw [h'] at h3;cases h3
   ·rcases h4 with h4 | h4
    ·rw [h] at h4;cases h4
    ·rw [h'] at h4;cases h4
  ·exact h2
theorem mkW_keep:∀ {os:List IOper} {k:Nat} {W W':T Nat},mkW os k W=some W'→∀ t i,W.get t=some i→W'.get t=some i
 | [],k,W,W',h,t,i,ht=>by simp only [mkW,Option.some.injEq] at h;subst h;exact ht
 | o::os,k,W,W',h,t,i,ht=>by
   unfold mkW at h
   split at h
   ·exact mkW_keep h t i ht
   ·rename_i u hu
    split at h
    ·cases h
    ·rename_i hn
     refine mkW_keep h t i ?_
     rw [T.get_set_ne _ _ (fun e=>by subst e;rw [hn] at ht;cases ht)]
     exact ht
theorem mkW_get:∀ {os:List IOper} {k:Nat} {W W':T Nat},mkW os k W=some W'→∀ i x t,os[i]?=some x→x.dst=some t→W'.get t=some (k+i)
 | [],k,W,W',h,i,x,t,hi,_=>by simp at hi
 | o::os,k,W,W',h,i,x,t,hi,ht=>by
   unfold mkW at h
   cases i with
   | zero=>
     simp at hi
     subst hi
     rw [ht] at h
     simp only at h
     split at h
     ·cases h
     ·exact mkW_keep h t k (T.get_set_self _ _ _)
   | succ i=>
     have hi':os[i]?=some x:=by simpa using hi
     have e:k+(i+1)=(k+1)+i:=by omega
     rw [e]
     split at h
     ·exact mkW_get h i x t hi' ht
     ·split at h
      ·cases h
      ·exact mkW_get h i x t hi' ht
theorem rdsOk_get {W:T Nat} {bits:List Nat}:∀ {os:List IOper} {bs:List Nat} {j:Nat},rdsOk W bits os bs j=true→∀ (i:Nat) (o:IOper),os[i]?=some o→∃ b,bs[i]?=some b∧o.reads.all (rdOk W bits b (j+i))=true
 | [],bs,j,h,i,o,hi=>by simp at hi
 | o'::os,[],j,h,i,o,hi=>by cases h
 | o'::os,b::bs,j,h,i,o,hi=>by
   simp only [rdsOk,Bool.and_eq_true] at h
   cases i with
   | zero=>simp at hi;subst hi;exact ⟨b,rfl,h.1⟩
   | succ i=>
     obtain ⟨b',h1,h2⟩:=rdsOk_get h.2 i o (by simpa using hi)
     refine ⟨b',by simpa using h1,?_⟩
     have e:j+(i+1)=(j+1)+i:=by omega
     rw [e];exact h2
theorem apart_of (ha:apartOk bits is=true) {i j:Nat} {x y:IOper} (hx:is[i]?=some x) (hy:is[j]?=some y) (hne:i≠j) {t:Nat} (ht:x.dst=some t) :
  y.dst≠some t∧(t∈y.reads→(bits.getD j 0).testBit i=true∨(bits.getD i 0).testBit j=true):=by
 unfold apartOk at ha
 split at ha
 ·cases ha
 ·rename_i W hW
  have hg:=mkW_get hW i x t hx ht
  rw [Nat.zero_add] at hg
  refine ⟨fun e=>?_,fun hm=>?_⟩
  ·have hg2:=mkW_get hW j y t hy e
   rw [Nat.zero_add,hg] at hg2
   cases hg2
   exact hne rfl
  ·obtain ⟨b,h1,h2⟩:=rdsOk_get ha j y hy
   have h3:=List.all_eq_true.1 h2 t hm
   rw [Nat.zero_add] at h3
   unfold rdOk at h3
   rw [hg] at h3
   simp only [Bool.or_eq_true] at h3
   have hb:bits.getD j 0=b:=by rw [List.getD_eq_getElem?_getD,h1];rfl
   rcases h3 with (h3 | h3) | h3
   ·exact absurd (Nat.eq_of_beq_eq_true h3) hne
   ·rw [hb];exact .inl h3
   ·exact .inr h3
end
end Go.AL
end
section
set_option linter.unusedSimpArgs false
set_option linter.unusedVariables false
set_option maxHeartbeats 2000000
namespace Go.AL
section
variable {P:Program} {call:Call} {ds:List Deferred} {is:List IOper} {fl:List (Bool×Bool)} {Es:Nat→Env} {Hs:Nat→AH} {vs:Nat→Value} {ops:Array Oper} {bits:List Nat} {nt:Nat}
structure RI (ds:List Deferred) (P:Program) (is:List IOper) (fl:List (Bool×Bool)) (Es:Nat→Env) (Hs:Nat→AH) (vs:Nat→Value) (nt:Nat) (β0:BM) (w0:World) (b:Nat→Bool) (β:BM) (a:Act) (w:World):Prop where
 tm:∀ t v,(Es 0).get t=some v→(∀ j o,is[j]?=some o→b j=true→o.dst≠some t)→VR β v (a.tmps.getD t undef)
 tj:∀ j o t,is[j]?=some o→b j=true→o.dst=some t→VR β (vs j) (a.tmps.getD t undef)
 sz:nt≤a.tmps.size
 df:a.defers=ds
 ext:β0.le β
 old:∀ id,id<(Hs 0).n∨(Hs is.length).n≤id→β id=β0 id
 size:w0.heap.size≤w.heap.size
 frame:∀ k,k<w0.heap.size→(∀ id bi bk,(Hs 0).t.get id=some bk→bk.kind≠1→β0 id=some bi→bi.b≠k)→w.heap[k]?=w0.heap[k]?
 fresh:∀ id bi,β0 id=none→β id=some bi→w0.heap.size≤bi.b∨∃ id0 bi0 bk,(Hs 0).t.get id0=some bk∧bk.kind≠1∧β0 id0=some bi0∧bi0.b=bi.b
 os:w.os=w0.os
 tape:w.tape=w0.tape
 output:w.output=w0.output
 dom:∀ i,i<is.length→b i=false→∀ id,(Hs i).n≤id→id<(Hs (i+1)).n→β id=none
 rel:∃ e,e≤is.length∧(∀ k,k<e→wr fl k=true→b k=true)∧(e<is.length→wr fl e=true∧b e=false)∧Rel P β (Hs e) w
def upd (b:Nat→Bool) (i:Nat):Nat→Bool:=fun j=>if j=i then true else b j
theorem upd_self (b:Nat→Bool) (i:Nat):upd b i i=true:=by simp [upd]
theorem upd_ne {b:Nat→Bool} {i j:Nat} (h:j≠i):upd b i j=b j:=by simp [upd,h]
theorem reads_of {o:IOper} {t:Nat} (h:(.tmp t)∈o.op.opnds):t∈o.reads:=by
 unfold IOper.reads
 rw [List.mem_append]
 exact .inl (List.mem_filterMap.2 ⟨.tmp t,h,rfl⟩)
theorem reads_guard {o:IOper} {t:Nat} {x:Bool} (h:o.guard=some (t,x)):t∈o.reads:=by
 unfold IOper.reads
 rw [List.mem_append]
 right
 rw [h]
 simp
theorem RI.temps {β0 β β':BM} {w0 w:World} {b:Nat→Bool} {a:Act} {i:Nat} {io:IOper} {v':Value} (h:RI ds P is fl Es Hs vs nt β0 w0 b β a w) (ha:apartOk bits is=true) (hi:is[i]?=some io) (hd:∀ d,io.dst=some d→d<nt)
  (hle:β.le β') (hv:VR β' (vs i) v') :
  (∀ t v,(Es 0).get t=some v→(∀ j o,is[j]?=some o→upd b i j=true→o.dst≠some t)→VR β' v ((a.put io.dst v').tmps.getD t undef)) ∧
  (∀ j o t,is[j]?=some o→upd b i j=true→o.dst=some t→VR β' (vs j) ((a.put io.dst v').tmps.getD t undef)):=by
 have hds:∀ x,io.dst=some x→x<a.tmps.size:=fun x e=>Nat.lt_of_lt_of_le (hd x e) h.sz
 refine ⟨fun t v e hno=>?_,fun j o t hj hb hdt=>?_⟩
 ·have h1:io.dst≠some t:=hno i io hi (upd_self b i)
  rw [getD_put t hds,if_neg h1]
  refine (h.tm t v e (fun j o hj hb=>hno j o hj ?_)).mono hle
  by_cases hji:j=i
  ·subst hji;exact upd_self b j
  ·rw [upd_ne hji];exact hb
 ·rw [getD_put t hds]
  by_cases hji:j=i
  ·subst hji
   rw [hi] at hj;cases hj
   rw [if_pos hdt]
   exact hv
  ·rw [upd_ne hji] at hb
   have:=(apart_of ha hj hi hji hdt).1
   rw [if_neg this]
   exact (h.tj j o t hj hb hdt).mono hle
theorem RI.reads {β0 β:BM} {w0 w:World} {b:Nat→Bool} {a:Act} {i:Nat} {io:IOper} {o:Oper} (h:RI ds P is fl Es Hs vs nt β0 w0 b β a w) (tr:Trace call is fl Es Hs vs) (ha:apartOk bits is=true) (hb:bitsOk ops bits=true) (he:edgesOk ops=true)
  (hsz:is.length=ops.size) (hc:ClosedL ops b) (hi:is[i]?=some io) (ho:ops[i]?=some o) (hbi:b i=false) (hr:∀ e∈o.after.toList,Region.binds .any e=true→b e.on=true) {t:Nat} (ht:t∈io.reads) {v:Value} (hv:(Es i).get t=some v) :
  VR β v (a.tmps.getD t undef):=by
 have hil:=(List.getElem?_eq_some_iff.1 hi).1
 rcases tr.env (Nat.le_of_lt hil) t with ⟨j,oj,h1,h2,h3,h4,_⟩ | ⟨h1,h2⟩
 ·rw [hv] at h4
  cases h4
  have hbj:b j=true:=by
   rcases (apart_of ha h2 hi (by omega) h3).2 ht with h5 | h5
   ·exact ready_bit hb he hc ho hr h5
   ·have:=bits_lt hb he j j (Nat.le_refl _) (by omega) i h5
    omega
  exact h.tj j oj t h2 hbj h3
 ·rw [hv] at h2
  refine h.tm t v h2.symm (fun j oj hj hbj hdt=>?_)
  have hjl:=(List.getElem?_eq_some_iff.1 hj).1
  rcases Nat.lt_or_ge j i with h3 | h3
  ·exact h1 j oj h3 hj hdt
  ·have hne:j≠i:=fun e=>by subst e;rw [hbi] at hbj;cases hbj
   rcases (apart_of ha hj hi hne hdt).2 ht with h5 | h5
   ·have:=bits_lt hb he i i (Nat.le_refl _) (by omega) j h5
    omega
   ·have:=closed_bit hb he hc j j (Nat.le_refl _) (by omega) hbj i h5
    rw [hbi] at this;cases this
theorem RI.still {β0 β:BM} {w0 w:World} {b:Nat→Bool} {a:Act} {i:Nat} {io:IOper} {v':Value} (h:RI ds P is fl Es Hs vs nt β0 w0 b β a w) (ha:apartOk bits is=true) (hi:is[i]?=some io) (hd:∀ d,io.dst=some d→d<nt)
  (hw:wr fl i=false) (hv:VR β (vs i) v'):RI ds P is fl Es Hs vs nt β0 w0 (upd b i) β (a.put io.dst v') w:=by
 obtain ⟨t1,t2⟩:=h.temps ha hi hd (BM.le.refl β) hv
 refine ⟨t1,t2,by rw [size_put];exact h.sz,by rw [defers_put];exact h.df,h.ext,h.old,h.size,h.frame,h.fresh,h.os,h.tape,h.output,?_,?_⟩
 ·intro j hj hb
  by_cases hji:j=i
  ·subst hji;rw [upd_self] at hb;cases hb
  ·rw [upd_ne hji] at hb;exact h.dom j hj hb
 ·obtain ⟨e,e1,e2,e3,e4⟩:=h.rel
  refine ⟨e,e1,fun k k1 k2=>?_,fun hlt=>?_,e4⟩
  ·by_cases hki:k=i
   ·subst hki;exact upd_self b k
   ·rw [upd_ne hki];exact e2 k k1 k2
  ·obtain ⟨g1,g2⟩:=e3 hlt
   refine ⟨g1,?_⟩
   rw [upd_ne (fun e=>by subst e;rw [hw] at g1;cases g1)]
   exact g2
theorem RI.at {β0 β:BM} {w0 w:World} {b:Nat→Bool} {a:Act} {i:Nat} {o:Oper} (h:RI ds P is fl Es Hs vs nt β0 w0 b β a w) (hF:SimF P call) (tr:Trace call is fl Es Hs vs) (hb:bitsOk ops bits=true) (he:edgesOk ops=true) (hok:okDraw bits fl=true)
  (hsz:is.length=ops.size) (hc:ClosedL ops b) (hlt0:∀ id bk,(Hs 0).t.get id=some bk→id<(Hs 0).n) (hg0:P.globals.size≤(Hs 0).n) (ho:ops[i]?=some o) (hbi:b i=false) (hr:∀ e∈o.after.toList,Region.binds .any e=true→b e.on=true) (ht:tc fl i=true) :
  ∃ e,i≤e∧e≤is.length∧(∀ k,k<e→wr fl k=true→b k=true)∧(e<is.length→wr fl e=true∧b e=false)∧Rel P β (Hs e) w∧(∀ k,i≤k→k<e→wr fl k=false)∧(wr fl i=true→e=i)∧Rel P β (Hs i) w:=by
 have hil:i<is.length:=by rw [hsz];exact (Array.getElem?_eq_some_iff.1 ho).1
 obtain ⟨e,e1,e2,e3,e4⟩:=h.rel
 have hie:i≤e:=by
  rcases Nat.lt_or_ge e i with h' | h'
  ·obtain ⟨g1,g2⟩:=e3 (by omega)
   have:=ready_bit hb he hc ho hr (pair_of hok h' (by rw [tr.len];omega) (.inl ⟨g1,ht⟩))
   rw [g2] at this;cases this
  ·exact h'
 have hnow:∀ k,i≤k→k<e→wr fl k=false:=by
  intro k k1 k2
  cases hk:wr fl k with
  | false=>rfl
  | true=>
    have hbk:=e2 k k2 hk
    by_cases hki:k=i
    ·subst hki;rw [hbi] at hbk;cases hbk
    ·have:=closed_bit hb he hc k k (Nat.le_refl _) (by omega) hbk i (pair_of hok (by omega) (by rw [tr.len];omega) (.inr ⟨ht,hk⟩))
     rw [hbi] at this;cases this
 refine ⟨e,hie,e1,e2,e3,e4,hnow,fun hw=>?_,?_⟩
 ·by_cases hei:e=i
  ·exact hei
  ·have:=hnow i (Nat.le_refl _) (by omega)
   rw [hw] at this;cases this
 ·have hap0:=tr.ap hF (Nat.zero_le i) (Nat.le_of_lt hil)
  have hlt:=hap0.lt hlt0
  have hk:=tr.keep hF hie e1 hnow
  refine ⟨hlt,Nat.le_trans hg0 hap0.mono,e4.glob,fun id bi bk f1 f2=>e4.blk id bi bk f1 (by rw [hk id (hlt id bk f2)];exact f2),fun x y bx by_ kx ky f1 f2=>e4.inj x y bx by_ kx ky (by rw [hk x (hlt x kx f1)];exact f1) (by rw [hk y (hlt y ky f2)];exact f2)⟩
theorem RI.moved {β0 β β':BM} {w0 w w':World} {b:Nat→Bool} {a:Act} {i:Nat} {io:IOper} {o:Oper} {v':Value} (h:RI ds P is fl Es Hs vs nt β0 w0 b β a w) (hF:SimF P call) (tr:Trace call is fl Es Hs vs) (ha:apartOk bits is=true) (hb:bitsOk ops bits=true) (he:edgesOk ops=true)
  (hok:okDraw bits fl=true) (hsz:is.length=ops.size) (hc:ClosedL ops b) (hlt0:∀ id bk,(Hs 0).t.get id=some bk→id<(Hs 0).n) (hg0:P.globals.size≤(Hs 0).n) (hn0:∀ id,(Hs 0).n≤id→id<(Hs is.length).n→β0 id=none)
  (hi:is[i]?=some io) (ho:ops[i]?=some o) (hbi:b i=false) (hr:∀ e∈o.after.toList,Region.binds .any e=true→b e.on=true) (hd:∀ d,io.dst=some d→d<nt)
  (ht:tc fl i=true) (hv:VR β' (vs i) v') (hp:Post P β (Hs i) w β' (Hs (i+1)) w'):RI ds P is fl Es Hs vs nt β0 w0 (upd b i) β' (a.put io.dst v') w':=by
 have hil:=(List.getElem?_eq_some_iff.1 hi).1
 obtain ⟨t1,t2⟩:=h.temps ha hi hd hp.ext hv
 have ap0i:=tr.ap hF (Nat.zero_le i) (Nat.le_of_lt hil)
 have apin:=tr.ap hF (show i+1≤is.length by omega) (Nat.le_refl _)
 have ap1:=tr.ap1 hF hil
 have hlti:=ap0i.lt hlt0
 have back:∀ id bi bk,(Hs i).t.get id=some bk→bk.kind≠1→β id=some bi→(∃ b0,(Hs 0).t.get id=some b0∧b0.kind≠1∧β0 id=some bi)∨(β0 id=none):=by
  intro id bi bk f1 f2 f3
  rcases Nat.lt_or_ge id (Hs 0).n with h' | h'
  ·obtain ⟨b0,g1,g2⟩:=ap0i.live id bk h' f1
   exact .inl ⟨b0,g1,by rw [g2];exact f2,by rw [←h.old id (.inl h')];exact f3⟩
  ·have:=hlti id bk f1
   have m1:=ap1.mono
   have m2:=apin.mono
   exact .inr (hn0 id h' (by omega))
 refine ⟨t1,t2,by rw [size_put];exact h.sz,by rw [defers_put];exact h.df,h.ext.trans hp.ext,?_,Nat.le_trans h.size hp.size,?_,?_,hp.os.trans h.os,hp.tape.trans h.tape,hp.output.trans h.output,?_,?_⟩
 ·intro id hid
  have m0:=ap0i.mono
  have m2:=apin.mono
  rw [hp.old id (by omega),h.old id hid]
 ·intro k hk hno
  rw [hp.frame k (Nat.lt_of_lt_of_le hk h.size) ?_,h.frame k hk hno]
  intro id bi bk f1 f2 f3 hbk
  rcases back id bi bk f1 f2 f3 with ⟨b0,g1,g2,g3⟩ | g
  ·exact hno id bi b0 g1 g2 g3 hbk
  ·rcases h.fresh id bi g f3 with h1 | ⟨id0,bi0,b0,g1,g2,g3,g4⟩
   ·omega
   ·exact hno id0 bi0 b0 g1 g2 g3 (by omega)
 ·intro id bi f1 f2
  cases hβ:β id with
  | some bi'=>
    have:=hp.ext id bi' hβ
    rw [f2] at this;cases this
    exact h.fresh id bi f1 hβ
  | none=>
    rcases hp.fresh id bi hβ f2 with h1 | ⟨id0,bi0,b0,g1,g2,g3,g4⟩
    ·left;have:=h.size;omega
    ·rcases back id0 bi0 b0 g1 g2 g3 with ⟨b1,k1,k2,k3⟩ | g
     ·exact .inr ⟨id0,bi0,b1,k1,k2,k3,g4⟩
     ·rcases h.fresh id0 bi0 g g3 with h1 | ⟨id1,bi1,b1,k1,k2,k3,k4⟩
      ·left;omega
      ·exact .inr ⟨id1,bi1,b1,k1,k2,k3,by omega⟩
 ·intro j hj hbj id f1 f2
  have hji:j≠i:=fun e=>by subst e;rw [upd_self] at hbj;cases hbj
  rw [upd_ne hji] at hbj
  rw [hp.old id ?_]
  ·exact h.dom j hj hbj id f1 f2
  ·rcases Nat.lt_or_ge j i with h' | h'
   ·have:=(tr.ap hF (show j+1≤i by omega) (Nat.le_of_lt hil)).mono
    left;omega
   ·have:=(tr.ap hF (show i+1≤j by omega) (Nat.le_of_lt hj)).mono
    right;omega
 ·obtain ⟨e,e1,e2,e3,e4,e5,e6,e7,e8⟩:=h.at hF tr hb he hok hsz hc hlt0 hg0 ho hbi hr ht
  have bound:∀ id bi bk,β id=some bi→(Hs e).t.get id=some bk→bi.b<w.heap.size:=fun id bi bk f1 f2=>by
   obtain ⟨_,_,_,g1,_⟩:=e5.blk id bi bk f1 f2
   exact (Array.getElem?_eq_some_iff.1 g1).1
  cases hw:wr fl i with
  | false=>
    have hei:i+1≤e:=by
     by_cases hq:e=i
     ·subst hq
      obtain ⟨g1,_⟩:=e4 hil
      rw [hw] at g1;cases g1
     ·omega
    have hk1:=tr.keep hF hei e2 (fun k k1 k2=>e6 k (by omega) k2)
    have hki:=tr.keep hF e1 e2 e6
    refine ⟨e,e2,fun k k1 k2=>?_,fun hlt=>?_,⟨e5.lt,e5.glt,fun g hg=>hp.ext _ _ (e5.glob g hg),?_,?_⟩⟩
    ·by_cases hq:k=i
     ·subst hq;exact upd_self b k
     ·rw [upd_ne hq];exact e3 k k1 k2
    ·obtain ⟨g1,g2⟩:=e4 hlt
     exact ⟨g1,by rw [upd_ne (fun q=>by omega)];exact g2⟩
    ·intro id bi bk f1 f2
     rcases Nat.lt_or_ge id (Hs (i+1)).n with h' | h'
     ·rw [hk1 id h'] at f2
      exact hp.rel.blk id bi bk f1 f2
     ·have f3:β id=some bi:=by rw [←hp.old id (.inr h')];exact f1
      obtain ⟨c,el,fz,g1,g2⟩:=e5.blk id bi bk f3 f2
      refine ⟨c,el,fz,?_,?_⟩
      ·rw [hp.frame bi.b (bound id bi bk f3 f2) ?_]
       ·exact g1
       ·intro id2 bi2 bk2 k1 k2 k3 k4
        have hl2:=hlti id2 bk2 k1
        have:=e5.inj id2 id bi2 bi bk2 bk (by rw [hki id2 hl2];exact k1) f2 k3 f3 k4 (.inl k2)
        have m1:=ap1.mono
        omega
      ·obtain ⟨rest,cs,p1,p2⟩:=g2.pre
       exact ⟨⟨rest,cs,p1,p2.mono hp.ext⟩,g2.rw,g2.grow⟩
    ·
     have mixed:∀ x y bx bY kx ky,x<(Hs (i+1)).n→(Hs (i+1)).n≤y→(Hs e).t.get x=some kx→(Hs e).t.get y=some ky→β' x=some bx→β' y=some bY→bx.b=bY.b→(kx.kind≠1∨ky.kind≠1)→False:=by
      intro x y bx bY kx ky hx hy f1 f2 f3 f4 f5 f6
      have f4':β y=some bY:=by rw [←hp.old y (.inr hy)];exact f4
      have hby:=bound y bY ky f4' f2
      cases hβx:β x with
      | some bx'=>
        have:=hp.ext x bx' hβx
        rw [f3] at this;cases this
        have:=e5.inj x y bx bY kx ky f1 f2 hβx f4' f5 f6
        omega
      | none=>
        rcases hp.fresh x bx hβx f3 with h1 | ⟨id0,bi0,b0,g1,g2,g3,g4⟩
        ·omega
        ·have hl0:=hlti id0 b0 g1
         have:=e5.inj id0 y bi0 bY b0 ky (by rw [hki id0 hl0];exact g1) f2 g3 f4' (by omega) (.inl g2)
         have m1:=ap1.mono
         omega
     intro x y bx bY kx ky f1 f2 f3 f4 f5 f6
     rcases Nat.lt_or_ge x (Hs (i+1)).n with hx | hx<;>rcases Nat.lt_or_ge y (Hs (i+1)).n with hy | hy
     ·rw [hk1 x hx] at f1;rw [hk1 y hy] at f2
      exact hp.rel.inj x y bx bY kx ky f1 f2 f3 f4 f5 f6
     ·exact (mixed x y bx bY kx ky hx hy f1 f2 f3 f4 f5 f6).elim
     ·exact (mixed y x bY bx ky kx hy hx f2 f1 f4 f3 f5.symm f6.symm).elim
     ·exact e5.inj x y bx bY kx ky f1 f2 (by rw [←hp.old x (.inr hx)];exact f3) (by rw [←hp.old y (.inr hy)];exact f4) f5 f6
  | true=>
    obtain rfl:=e7 hw
    obtain ⟨e',g1,g2,g3,g4⟩:=next_wr fl is.length (is.length-(e+1)) (e+1) (by omega)
    have hk1:=tr.keep hF g1 g2 g3
    have later:∀ k,e<k→k<is.length→tc fl k=true→b k=false:=by
     intro k k1 k2 k3
     cases hbk:b k with
     | false=>rfl
     | true=>
       have:=closed_bit hb he hc k k (Nat.le_refl _) (by omega) hbk e (pair_of hok k1 (by rw [tr.len];omega) (.inl ⟨hw,k3⟩))
       rw [hbi] at this;cases this
    have laterw:∀ k,e<k→wr fl k=true→b k=false:=by
     intro k k1 k2
     refine later k k1 (wr_lt tr k2) ?_
     cases hq:tc fl k with
     | true=>rfl
     | false=>rw [tr.pure_wr (wr_lt tr k2) hq] at k2;cases k2
    have none':∀ id,(Hs (e+1)).n≤id→id<(Hs is.length).n→β' id=none:=by
     intro id f1 f2
     rw [hp.old id (.inr f1)]
     obtain ⟨j,j1,j2,j3,j4⟩:=tr.locate hF (show e+1≤is.length by omega) (Nat.le_refl _) f1 f2
     cases hbj:b j with
     | false=>exact h.dom j j2 hbj id j3 j4
     | true=>
       have htj:tc fl j=false:=by
        cases hq:tc fl j with
        | false=>rfl
        | true=>rw [later j (by omega) j2 hq] at hbj;cases hbj
       have:=(tr.pure j2 htj).2
       omega
    have ape:=tr.ap hF (show e'≤is.length from g2) (Nat.le_refl _)
    have hlte:=(tr.ap hF (Nat.zero_le e') g2).lt hlt0
    have same:∀ id bi bk,β' id=some bi→(Hs e').t.get id=some bk→(Hs (e+1)).t.get id=some bk:=by
     intro id bi bk f1 f2
     rcases Nat.lt_or_ge id (Hs (e+1)).n with h' | h'
     ·rw [←hk1 id h'];exact f2
     ·have:=hlte id bk f2
      have m:=ape.mono
      rw [none' id h' (by omega)] at f1
      cases f1
    refine ⟨e',g2,fun k k1 k2=>?_,fun hlt=>⟨g4 hlt,?_⟩,⟨hlte,Nat.le_trans hg0 (tr.ap hF (Nat.zero_le e') g2).mono,fun g hg=>hp.ext _ _ (e5.glob g hg),fun id bi bk f1 f2=>hp.rel.blk id bi bk f1 (same id bi bk f1 f2),fun x y bx bY kx ky f1 f2 f3 f4=>hp.rel.inj x y bx bY kx ky (same x bx kx f3 f1) (same y bY ky f4 f2) f3 f4⟩⟩
    ·rcases Nat.lt_or_ge k e with q | q
     ·rw [upd_ne (by omega)];exact e3 k q k2
     ·by_cases q2:k=e
      ·subst q2;exact upd_self b k
      ·have:=g3 k (by omega) k1
       rw [k2] at this;cases this
    ·rw [upd_ne (by omega)]
     exact laterw e' (by omega) (g4 hlt)
end
end Go.AL
end
section
set_option linter.unusedSimpArgs false
set_option linter.unusedVariables false
set_option maxHeartbeats 2000000
namespace Go.AL
section
variable {P:Program} {call:Call} {ds:List Deferred}
theorem count_upd (b:Nat→Bool) (i:Nat) (hb:b i=false):∀ {l:List Nat},l.Nodup→i∈l→(l.filter fun j=>!upd b i j).length+1=(l.filter fun j=>!b j).length
 | [],_,h=>by cases h
 | x::l,hn,h=>by
   rw [List.nodup_cons] at hn
   by_cases hx:x=i
   ·subst hx
    have h1:(l.filter fun j=>!upd b x j)=l.filter fun j=>!b j:=by
     refine List.filter_congr (fun j hj=>?_)
     rw [upd_ne (fun e=>hn.1 (by rw [←e];exact hj))]
    rw [List.filter_cons,List.filter_cons]
    simp [upd_self,hb,h1]
   ·have hi:i∈l:=by
     rcases List.mem_cons.1 h with e | e
     ·exact absurd e.symm hx
     ·exact e
    have h1:=count_upd b i hb hn.2 hi
    rw [List.filter_cons,List.filter_cons,upd_ne hx]
    cases hbx:b x
    ·simp only [Bool.not_false,if_true,List.length_cons];omega
    ·simpa using h1
theorem getD_set {l:Array Bool} {i:Nat} (hi:i<l.size) (j:Nat):(l.setIfInBounds i true).getD j false=upd (fun j=>l.getD j false) i j:=by
 unfold upd
 simp only [Array.getD_eq_getD_getElem?,Array.getElem?_setIfInBounds]
 by_cases h:i=j
 ·subst h;simp [hi]
 ·have:¬ j=i:=fun e=>h e.symm
  simp [h,this]
theorem load_sim {β:BM} {E:Env} {a:Act} {H H' H1:AH} {w:World} {o:Oper} {g:Option Nat} {x:Operand} {ad:Addr} {v:Value} (hc:cop0 P o.op=some (.load g x)) (hok:∀ y∈(IOp.load g x).opnds,Ok1 β E a y) (hx:ev E x=some (.pointer (some ad))) (hst:H'.t.get ad.block=H.t.get ad.block)
  (hs:stepOp call E H (.load g x)=some (v,H1)) (h:Rel P β H' w):∃ v',(execOp a.eval o).run P w=.ok (.value v') w∧VR β v v':=by
 simp only [stepOp,IOp.touch,cond_true,hop,hx] at hs
 split at hs
 ·cases hs
 ·rename_i bk hb
  split at hs
  ·cases hs
  ·rename_i u hpart
   simp only [Option.some.injEq,Prod.mk.injEq] at hs
   obtain ⟨rfl,_⟩:=hs
   obtain ⟨dst,op,type,pos,after,guard⟩:=o
   simp only at hc
   cases op
   case load t y=>
    simp only [cop0] at hc
    split at hc
    ·rename_i g' hg
     simp only [Option.some.injEq,IOp.load.injEq] at hc
     obtain ⟨rfl,rfl⟩:=hc
     obtain ⟨bi,hsp,hβ,he⟩:=(hok _ (by simp [IOp.opnds]) _ hx).ptr_inv
     obtain ⟨v',r1,r2⟩:=load_run (P:=P) (w:=w) hg h hβ (by rw [hst];exact hb) hpart
     refine ⟨v',?_,r2⟩
     simp only [execOp]
     exact run_value' (by rw [he];simp [Instr.loadAt,Instr.sureAddr,r1])
    ·cases hc
   all_goals
    simp only [cop0] at hc
    repeat' (split at hc)
    all_goals cases hc
theorem any_sim (hF:SimF P call) {nt:Nat} {ops:Array Oper} {is:List IOper} {bits:List Nat} {fl:List (Bool×Bool)} {Es:Nat→Env} {Hs:Nat→AH} {vs:Nat→Value} {Q:Exit→Act→World→Prop} {β0:BM} {w0:World}
  (hcs:copers P nt ops ops.toList=some is) (tr:Trace call is fl Es Hs vs) (ha:apartOk bits is=true) (hb:bitsOk ops bits=true) (he:edgesOk ops=true) (hok:okDraw bits fl=true)
  (hlt0:∀ id bk,(Hs 0).t.get id=some bk→id<(Hs 0).n) (hg0:P.globals.size≤(Hs 0).n) (hn0:∀ id,(Hs 0).n≤id→id<(Hs is.length).n→β0 id=none)
  (hQ:∀ b β a w,(∀ i,i<is.length→b i=true)→RI ds P is fl Es Hs vs nt β0 w0 b β a w→Q .normal a w) :
  ∀ (fuel:Nat) (l:Array Bool) (β:BM) (a:Act) (w:World),l.size=ops.size→((List.range ops.size).filter fun j=>!l.getD j false).length=fuel→ClosedL ops (fun j=>l.getD j false) →
    RI ds P is fl Es Hs vs nt β0 w0 (fun j=>l.getD j false) β a w→wpAny P .any ops Q fuel l a w:=by
 obtain ⟨hlen,hget⟩:=copers_get hcs
 have hsz:is.length=ops.size:=by rw [hlen];simp
 intro fuel
 induction fuel with
 | zero=>
   intro l β a w hls hcnt hcl hri
   have hall:∀ i,i<is.length→l.getD i false=true:=by
    intro i hi
    cases hli:l.getD i false with
    | true=>rfl
    | false=>
      have:i∈(List.range ops.size).filter fun j=>!l.getD j false:=by
       rw [List.mem_filter]
       exact ⟨List.mem_range.2 (by omega),by simp [hli]⟩
      rw [List.eq_nil_of_length_eq_zero hcnt] at this
      cases this
   refine ⟨?_,hQ _ β a w hall hri⟩
   refine List.eq_nil_iff_forall_not_mem.2 (fun i hi=>?_)
   obtain ⟨h0,o,ho,_⟩:=mem_ready.1 hi
   have hi':i<ops.size:=(Array.getElem?_eq_some_iff.1 ho).1
   have:=hall i (by omega)
   have e1:l.getD i true=l.getD i false:=by simp [Array.getD_eq_getD_getElem?,Array.getElem?_eq_getElem (show i<l.size by omega)]
   rw [e1,this] at h0
   cases h0
 | succ fuel ih=>
   intro l β a w hls hcnt hcl hri
   refine ⟨fun hr=>?_,fun i hi=>?_⟩
   ·exfalso
    have hex:∃ i,i<ops.size∧l.getD i false=false:=by
     cases hf:(List.range ops.size).filter (fun j=>!l.getD j false) with
     | nil=>rw [hf] at hcnt;simp at hcnt
     | cons x r=>
       have hx:x∈(List.range ops.size).filter (fun j=>!l.getD j false):=by rw [hf];exact List.mem_cons_self
       rw [List.mem_filter] at hx
       exact ⟨x,List.mem_range.1 hx.1,by simpa using hx.2⟩
    have hmin:∀ k,(∃ i,i≤k∧i<ops.size∧l.getD i false=false)→∃ i,i<ops.size∧l.getD i false=false∧∀ j,j<i→l.getD j false=true:=by
     intro k
     induction k with
     | zero=>rintro ⟨i,h1,h2,h3⟩;exact ⟨i,h2,h3,fun j hj=>by omega⟩
     | succ k ihk=>
       rintro ⟨i,h1,h2,h3⟩
       by_cases hlow:∃ j,j≤k∧j<ops.size∧l.getD j false=false
       ·exact ihk hlow
       ·refine ⟨i,h2,h3,fun j hj=>?_⟩
        cases hlj:l.getD j false with
        | true=>rfl
        | false=>exact absurd ⟨j,by omega,by omega,hlj⟩ hlow
    obtain ⟨i0,h1,h2⟩:=hex
    obtain ⟨i,hi1,hi2,hlow⟩:=hmin i0 ⟨i0,Nat.le_refl _,h1,h2⟩
    have ho:ops[i]?=some ops[i]:=Array.getElem?_eq_getElem hi1
    have:i∈Region.ready .any ops l:=by
     rw [mem_ready]
     refine ⟨?_,ops[i],ho,fun e e1 e2=>hlow _ (edges_lt he ho (Array.mem_toList_iff.2 e1) e2)⟩
     have e1:l.getD i true=l.getD i false:=by simp [Array.getD_eq_getD_getElem?,Array.getElem?_eq_getElem (show i<l.size by omega)]
     rw [e1];exact hi2
    rw [hr] at this
    cases this
   ·obtain ⟨h0,o,ho,hedges⟩:=mem_ready.1 hi
    have hi':i<ops.size:=(Array.getElem?_eq_some_iff.1 ho).1
    have hbi:l.getD i false=false:=by
     have e1:l.getD i true=l.getD i false:=by simp [Array.getD_eq_getD_getElem?,Array.getElem?_eq_getElem (show i<l.size by omega)]
     rw [←e1];exact h0
    have hr:∀ e∈o.after.toList,Region.binds .any e=true→l.getD e.on false=true:=fun e e1 e2=>hedges e (Array.mem_toList_iff.1 e1) e2
    obtain ⟨io,hio,hco⟩:=hget i o (by simpa using ho)
    obtain ⟨c1,c2,c3,c4⟩:=coper_some hco
    obtain ⟨c1,hallo⟩:=cop_some c1
    have hil:i<is.length:=by omega
    have hreads:∀ t,t∈io.reads→∀ v,(Es i).get t=some v→VR β v (a.tmps.getD t undef):=fun t ht v hv=>
     hri.reads tr ha hb he hsz hcl hio ho hbi hr ht hv
    have hg:∀ g,g<P.globals.size→β g=some ⟨g,0,0⟩:=by
     obtain ⟨e,_,_,_,e4⟩:=hri.rel
     exact e4.glob
    have hok1:∀ x∈io.op.opnds,Ok1 β (Es i) a x:=fun x hx=>ok1_of hg (List.all_eq_true.1 hallo x hx) (fun t v e hv=>hreads t (reads_of (by rw [←e];exact hx)) v hv)
    have hdn:∀ d,io.dst=some d→d<nt:=fun d e=>c4 d (by rw [←c3];exact e)
    have next:∀ β' v' w',RI ds P is fl Es Hs vs nt β0 w0 (upd (fun j=>l.getD j false) i) β' (a.put io.dst v') w'→wpAny P .any ops Q fuel (l.setIfInBounds i true) (a.put o.dst v') w':=by
     intro β' v' w' hri'
     have hfun:(fun j=>(l.setIfInBounds i true).getD j false)=upd (fun j=>l.getD j false) i:=funext fun j=>getD_set (by omega) j
     rw [←c3]
     refine ih _ β' _ _ (by simpa using hls) ?_ ?_ (by rw [hfun];exact hri')
     ·have:=count_upd (fun j=>l.getD j false) i hbi (l:=List.range ops.size) List.nodup_range (List.mem_range.2 hi')
      have e1:((List.range ops.size).filter fun j=>!(l.setIfInBounds i true).getD j false)=(List.range ops.size).filter fun j=>!upd (fun j=>l.getD j false) i j:=
       List.filter_congr fun j _=>by rw [getD_set (by omega) j]
      rw [e1]
      omega
     ·rw [hfun]
      intro d od hod hbd e e1 e2
      by_cases hdi:d=i
      ·subst hdi
       rw [ho] at hod;cases hod
       have:=hr e e1 e2
       by_cases hei:e.on=d
       ·rw [hei];exact upd_self _ _
       ·rw [upd_ne hei];exact this
      ·rw [upd_ne hdi] at hbd
       have:=hcl d od hod hbd e e1 e2
       by_cases hei:e.on=i
       ·rw [hei];exact upd_self _ _
       ·rw [upd_ne hei];exact this
    unfold wpOp
    rw [ho]
    simp only
    obtain ⟨hE,hstep⟩:=tr.step i io hio
    rcases hstep with ⟨hw,hwrt,H1,hs,hH,hfl⟩ | ⟨hw,hwrt,hs,f,hfl,hf⟩ | ⟨hw,hv,hH,hfl⟩
    ·have hwant:=wanted_sim (a:=a) (β:=β) c2 hw (fun t x v e hv=>hreads t (reads_guard e) v hv)
     rw [if_pos hwant]
     left
     have ht:tc fl i=true:=by
      unfold tc
      rw [List.getD_eq_getElem?_getD,hfl]
      rfl
     obtain ⟨_,_,_,_,_,_,_,_,hrel⟩:=hri.at hF tr hb he hok hsz hcl hlt0 hg0 ho hbi hr ht
     have hn1:(Hs (i+1)).n=H1.n:=by rw [hH]
     refine step_sim hF c1 hok1 hs (hrel.wl _) (fun id e1 e2=>hri.dom i hil hbi id e1 (by rw [hn1];exact e2)) ?_
     intro v' w' β' hv' hp
     have hp':Post P β (Hs i) w β' (Hs (i+1)) w':=by rw [hH];exact Post.wl (x:=(Hs i).n) hp
     exact next β' v' w' (hri.moved hF tr ha hb he hok hsz hcl hlt0 hg0 hn0 hio ho hbi hr hdn ht hv' hp')
    ·have hwant:=wanted_sim (a:=a) (β:=β) c2 hw (fun t x v e hv=>hreads t (reads_guard e) v hv)
     rw [if_pos hwant]
     left
     by_cases ht:tc fl i=true
     ·obtain ⟨_,_,_,_,_,_,_,_,hrel⟩:=hri.at hF tr hb he hok hsz hcl hlt0 hg0 ho hbi hr ht
      refine step_sim hF c1 hok1 hs hrel (fun id e1 e2=>hri.dom i hil hbi id e1 e2) ?_
      intro v' w' β' hv' hp'
      exact next β' v' w' (hri.moved hF tr ha hb he hok hsz hcl hlt0 hg0 hn0 hio ho hbi hr hdn ht hv' hp')
     ·have ht0:tc fl i=false:=by simpa using ht
      have hf0:f=false:=by
       unfold tc at ht0
       rw [List.getD_eq_getElem?_getD,hfl] at ht0
       simpa using ht0
      rcases hf with hf | ⟨_,g,x,ad,hop,hx,hst⟩
      ·have htouch:io.op.touch=false:=hf.symm.trans hf0
       obtain ⟨hp,_⟩:=stepOp_pure htouch hs
       obtain ⟨v',r1,r2⟩:=pop_sim c1 htouch hok1 hp w
       unfold Oper.wp
       rw [r1]
       exact next β v' w (hri.still ha hio hdn (tr.pure_wr hil ht0) r2)
      ·obtain ⟨e,e1,_,_,hrel⟩:=hri.rel
       rw [hop] at hs c1
       obtain ⟨v',r1,r2⟩:=load_sim c1 (fun y hy=>hok1 y (by rw [hop];exact hy)) hx (hst e e1) hs hrel
       unfold Oper.wp
       rw [r1]
       exact next β v' w (hri.still ha hio hdn (tr.pure_wr hil ht0) r2)
    ·have hwant:=wanted_sim (a:=a) (β:=β) c2 hw (fun t x v e hv=>hreads t (reads_guard e) v hv)
     rw [if_neg (by rw [hwant];decide)]
     refine next β undef w (hri.still ha hio hdn ?_ (by rw [hv];exact .tuple .nil))
     unfold wr
     rw [List.getD_eq_getElem?_getD,hfl]
     rfl
theorem drawn_sim (hm:P.follows .mixedOrders=true) (hF:SimF P call) {nt id:Nat} {ops:Array Oper} {is:List IOper} {bits:List Nat} {fl:List (Bool×Bool)} {Es:Nat→Env} {Hs:Nat→AH} {vs:Nat→Value} {E E1:Env} {H H1:AH} {β:BM} {a:Act} {w:World} {Q:Exit→Act→World→Prop}
  (his:copers P nt ops ops.toList=some is) (he:edgesOk ops=true) (hb:bitsOk ops bits=true) (ha:apartOk bits is=true) (hok:okDraw bits fl=true)
  (e1:Es 0=E) (e2:Hs 0=H) (e3:Es is.length=E1) (e4:Hs is.length=H1) (tr:Trace call is fl Es Hs vs)
  (henv:EnvRel β E a) (hnt:nt≤a.tmps.size) (hdf:a.defers=ds) (hr:Rel P β H w) (hn:∀ id,H.n≤id→id<H1.n→β id=none)
  (hQ:∀ β' a' w',EnvRel β' E1 a'→nt≤a'.tmps.size→a'.defers=ds→Post P β H w β' H1 w'→Q .normal a' w'):wpAny P .any ops Q ops.size (Array.replicate ops.size false) a { w with drawn:=w.drawn+1 }:=by
  obtain ⟨hlen,hget⟩:=copers_get his
  have hsz:is.length=ops.size:=by rw [hlen];simp
  have hr':Rel P β H { w with drawn:=w.drawn+1 }:=⟨hr.lt,hr.glt,hr.glob,hr.blk,hr.inj⟩
  have hno:∀ j,(Array.replicate ops.size false).getD j false=false:=fun j=>by
   simp only [Array.getD_eq_getD_getElem?,Array.getElem?_replicate]
   split<;>rfl
  have hno':∀ j,(fun j=>(Array.replicate ops.size false).getD j false) j=true→False:=fun j h=>by
   have h:(Array.replicate ops.size false).getD j false=true:=h
   rw [hno] at h;cases h
  refine any_sim (ds:=ds) (β0:=β) (w0:={ w with drawn:=w.drawn+1 }) hF his tr ha hb he hok (by rw [e2];exact hr.lt) (by rw [e2];exact hr.glt) (by rw [e2,e4];exact hn) ?_ ops.size (Array.replicate ops.size false) β a { w with drawn:=w.drawn+1 } (by simp) ?_ ?_ ?_
  ·intro b β' a' w' hall hri
   obtain ⟨e,g1,g2,g3,g4⟩:=hri.rel
   have heq:e=is.length:=by
    by_cases hq:e=is.length
    ·exact hq
    ·obtain ⟨_,g5⟩:=g3 (by omega)
     rw [hall e (by omega)] at g5;cases g5
   subst heq
   rw [e4] at g4
   refine hQ β' a' w' ?_ hri.sz hri.df ⟨hri.ext,fun id hid=>hri.old id (by rw [e2,e4];exact hid),g4,hri.size,?_,?_,hri.os,hri.tape,hri.output⟩
   ·intro t v hv
    rw [←e3] at hv
    rcases tr.env (Nat.le_refl _) t with ⟨j,oj,h1,h2,h3,h4,_⟩ | ⟨h1,h2⟩
    ·rw [hv] at h4;cases h4
     exact hri.tj j oj t h2 (hall j h1) h3
    ·rw [hv] at h2
     exact hri.tm t v h2.symm (fun j o hj _=>h1 j o (List.getElem?_eq_some_iff.1 hj).1 hj)
   ·intro k hk hno
    exact hri.frame k hk (by rw [e2];exact hno)
   ·intro id bi f1 f2
    have:=hri.fresh id bi f1 f2
    rw [e2] at this
    exact this
  ·have:((List.range ops.size).filter fun j=>!(Array.replicate ops.size false).getD j false)=List.range ops.size:=by
    rw [List.filter_eq_self]
    intro j _
    rw [hno];rfl
   rw [this];simp
  ·intro d o _ hbd
   exact (hno' d hbd).elim
  ·refine ⟨fun t v hv _=>henv t v (by rw [←e1];exact hv),(fun j o t _ hbj=>(hno' j hbj).elim),hnt,hdf,BM.le.refl β,fun _ _=>rfl,Nat.le_refl _,fun _ _ _=>rfl,(fun id bi f1 f2=>by rw [f1] at f2;cases f2),rfl,rfl,rfl,?_,?_⟩
   ·intro i hi _ id f1 f2
    have m1:=(tr.ap hF (Nat.zero_le i) (Nat.le_of_lt hi)).mono
    have m2:=(tr.ap hF (show i+1≤is.length by omega) (Nat.le_refl _)).mono
    rw [e2] at m1
    rw [e4] at m2
    exact hn id (by omega) (by omega)
   ·obtain ⟨e,g1,g2,g3,g4⟩:=next_wr fl is.length is.length 0 (by omega)
    refine ⟨e,g2,fun k k1 k2=>?_,fun hlt=>⟨g4 hlt,hno e⟩,?_⟩
    ·rw [g3 k (Nat.zero_le _) k1] at k2;cases k2
    ·have hk:=tr.keep hF (Nat.zero_le e) g2 g3
     have hap:=tr.ap hF (Nat.zero_le e) g2
     have hlte:=hap.lt (by rw [e2];exact hr.lt)
     have hnn:∀ id bi bk,β id=some bi→(Hs e).t.get id=some bk→H.t.get id=some bk:=by
      intro id bi bk f1 f2
      rcases Nat.lt_or_ge id (Hs 0).n with h' | h'
      ·rw [hk id h',e2] at f2;exact f2
      ·have hl:=hlte id bk f2
       have m2:=(tr.ap hF g2 (Nat.le_refl _)).mono
       rw [e2] at h'
       rw [e4] at m2
       rw [hn id h' (by omega)] at f1;cases f1
     exact ⟨hlte,Nat.le_trans (by rw [←e2] at hr';exact hr'.glt) hap.mono,hr'.glob,fun id bi bk f1 f2=>hr'.blk id bi bk f1 (hnn id bi bk f1 f2),fun x y bx bY kx ky f1 f2 f3 f4=>hr'.inj x y bx bY kx ky (hnn x bx kx f3 f1) (hnn y bY ky f4 f2) f3 f4⟩
def regW (P:Program) (ops:Array Oper) (draw:Bool) (Q:Exit→Act→World→Prop) (a:Act) (w:World):Prop:=
 if draw=true then wpAny P .any ops Q ops.size (Array.replicate ops.size false) a { w with drawn:=w.drawn+1 } else wpList P ops Q ops.toList a w
theorem region_simW (hm:P.follows .mixedOrders=true) (hF:SimF P call) {nt id:Nat} {ops:Array Oper} {draw:Bool} {ic:IC} {lf:Nat} {E E':Env} {H H':AH} {ctl:Ctl} {β:BM} {a:Act} {w:World} {Q:Exit→Act→World→Prop}
  (hc:ccode P nt (.region id ops draw)=some ic) (hev:evC call lf ic E H=some (ctl,E',H')) (henv:EnvRel β E a) (hnt:nt≤a.tmps.size) (hdf:a.defers=ds) (hr:Rel P β H w) (hn:∀ id,H.n≤id→id<H'.n→β id=none)
  (hQ:∀ β' a' w',EnvRel β' E' a'→nt≤a'.tmps.size→a'.defers=ds→Post P β H w β' H' w'→ctl=.normal→Q .normal a' w'):regW P ops draw Q a w:=by
 unfold ccode at hc
 split at hc
 ·cases hc
 ·rename_i is his
  cases draw with
  | false=>
    simp only [Bool.false_eq_true,if_false,Option.some.injEq] at hc
    subst hc
    simp only [evC] at hev
    split at hev
    ·cases hev
    ·rename_i E1 H1 fl he
     simp only [Bool.not_false,Bool.true_or,cond_true,Option.some.injEq,Prod.mk.injEq] at hev
     obtain ⟨rfl,rfl,rfl⟩:=hev
     unfold regW
     rw [if_neg (by decide)]
     exact (ops_sim hF his he henv hnt hdf hr hn (fun β' a' w' h1 h2 h3 h4=>hQ β' a' w' h1 h2 h3 h4 rfl))
  | true=>
    simp only [if_true] at hc
    split at hc
    ·rename_i hchk
     simp only [Bool.and_eq_true] at hchk
     obtain ⟨⟨he,hb⟩,ha⟩:=hchk
     simp only [Option.some.injEq] at hc
     subst hc
     simp only [evC] at hev
     split at hev
     ·cases hev
     ·rename_i E1 H1 fl hops
      simp only [Bool.not_true,Bool.false_or,cond_eq_ite] at hev
      split at hev
      ·rename_i hok
       simp only [Option.some.injEq,Prod.mk.injEq] at hev
       obtain ⟨rfl,rfl,rfl⟩:=hev
       obtain ⟨Es,Hs,vs,e1,e2,e3,e4,tr⟩:=trace_of hops
       unfold regW
       rw [if_pos rfl]
       exact drawn_sim (id:=id) hm hF his he hb ha hok e1 e2 e3 e4 tr.weak henv hnt hdf hr hn (fun β' a' w' h1 h2 h3 h4=>hQ β' a' w' h1 h2 h3 h4 rfl)
      ·split at hev
       ·cases hev
       ·rename_i E2 H2 fl2 hops2
        split at hev
        ·rename_i hok
         simp only [Bool.and_eq_true] at hok
         obtain ⟨hwl,hok⟩:=hok
         simp only [Option.some.injEq,Prod.mk.injEq] at hev
         obtain ⟨rfl,rfl,rfl⟩:=hev
         obtain ⟨Es,Hs,vs,e1,e2,e3,e4,tr⟩:=trace_of hops2
         have hwl:=Nat.le_of_ble_eq_true hwl
         have trm:=tr.marked hF (by rw [e2,e4];exact hwl)
         rw [e2,e3] at trm
         unfold regW
         rw [if_pos rfl]
         refine drawn_sim (id:=id) hm hF his he hb ha hok e1 e2 e3 e4 trm henv hnt hdf (hr.wl _) hn (fun β' a' w' h1 h2 h3 h4=>hQ β' a' w' h1 h2 h3 (Post.wl (x:=H.n) h4) rfl)
        ·split at hev
         ·rename_i hok3
          simp only [Option.some.injEq,Prod.mk.injEq] at hev
          obtain ⟨rfl,rfl,rfl⟩:=hev
          obtain ⟨Es,Hs,vs,e1,e2,e3,e4,tr⟩:=trace_of hops2
          have trm:=tr.marked2 hF
          rw [e2,e3,e4] at trm
          unfold regW
          rw [if_pos rfl]
          refine drawn_sim (id:=id) hm hF his he hb ha hok3 e1 e2 e3 e4 trm henv hnt hdf (hr.wl _) hn (fun β' a' w' h1 h2 h3 h4=>hQ β' a' w' h1 h2 h3 (Post.wl (x:=H.n) h4) rfl)
         ·cases hev
    ·cases hc
theorem region_sim (hm:P.follows .mixedOrders=true) (hF:SimF P call) {nt id:Nat} {ops:Array Oper} {draw:Bool} {ic:IC} {lf:Nat} {E E':Env} {H H':AH} {ctl:Ctl} {β:BM} {a:Act} {w:World} {Q:Exit→Act→World→Prop}
  (hc:ccode P nt (.region id ops draw)=some ic) (hev:evC call lf ic E H=some (ctl,E',H')) (henv:EnvRel β E a) (hnt:nt≤a.tmps.size) (hdf:a.defers=ds) (hr:Rel P β H w) (hn:∀ id,H.n≤id→id<H'.n→β id=none)
  (hQ:∀ β' a' w',EnvRel β' E' a'→nt≤a'.tmps.size→a'.defers=ds→Post P β H w β' H' w'→ctl=.normal→Q .normal a' w'):(Code.region id ops draw).wp P Q a w:=by
 have h:=region_simW hm hF hc hev henv hnt hdf hr hn hQ
 unfold regW at h
 cases draw with
 | true=>rw [if_pos rfl] at h;exact wp_region_any hm h
 | false=>rw [if_neg (by decide)] at h;exact wp_region_list h
end
end Go.AL
end
section
set_option linter.unusedSimpArgs false
set_option linter.unusedVariables false
set_option maxHeartbeats 2000000
namespace Go.AL
section
variable {P:Program} {call:Call}
def ctlExit:Ctl→Exit
 | .normal=>.normal
 | .exit id=>.exit id
 | .ret=>.ret
theorem loopN_ap {f:Env→AH→Option (Ctl×Env×AH)} (hf:∀ {E H ctl E' H'},f E H=some (ctl,E',H')→AP H H'):∀ {n E H ctl E' H'},loopN f n E H=some (ctl,E',H')→AP H H'
 | 0,_,_,_,_,_,h=>by cases h
 | n+1,E,H,ctl,E',H',h=>by
   unfold loopN at h
   split at h
   ·rename_i E1 H1 h1
    exact (hf h1).trans (loopN_ap hf h)
   ·exact hf h
theorem evC_ap (hF:SimF P call) {lf:Nat}:∀ {ic:IC} {E H ctl E' H'},evC call lf ic E H=some (ctl,E',H')→AP H H'
 | .skip,E,H,ctl,E',H',h=>by simp only [evC,Option.some.injEq,Prod.mk.injEq] at h;obtain ⟨_,_,rfl⟩:=h;exact AP.refl _
 | .region dr is bits,E,H,ctl,E',H',h=>by
   simp only [evC] at h
   split at h
   ·cases h
   ·rename_i E1 H1 fl he
    simp only [cond_eq_ite] at h
    split at h
    ·simp only [Option.some.injEq,Prod.mk.injEq] at h;obtain ⟨_,_,rfl⟩:=h;exact evOps_ap hF he
    ·split at h
     ·cases h
     ·rename_i E2 H2 fl2 he2
      split at h
      ·simp only [Option.some.injEq,Prod.mk.injEq] at h;obtain ⟨_,_,rfl⟩:=h;exact AP.min (evOps_ap hF he2)
      ·split at h
       ·simp only [Option.some.injEq,Prod.mk.injEq] at h;obtain ⟨_,_,rfl⟩:=h;exact AP.min (evOps_ap hF he2)
       ·cases h
 | .seq x y,E,H,ctl,E',H',h=>by
   simp only [evC] at h
   split at h
   ·rename_i E1 H1 h1
    exact (evC_ap hF h1).trans (evC_ap hF h)
   ·exact evC_ap hF h
 | .cond c x y,E,H,ctl,E',H',h=>by
   simp only [evC] at h
   split at h
   ·exact evC_ap hF h
   ·exact evC_ap hF h
   ·cases h
 | .block id b,E,H,ctl,E',H',h=>by
   simp only [evC] at h
   split at h
   ·rename_i k E1 H1 h1
    simp only [Option.some.injEq,Prod.mk.injEq] at h;obtain ⟨_,_,rfl⟩:=h;exact evC_ap hF h1
   ·exact evC_ap hF h
 | .loop b,E,H,ctl,E',H',h=>by
   simp only [evC] at h
   exact loopN_ap (fun h=>evC_ap hF h) h
 | .exit id,E,H,ctl,E',H',h=>by simp only [evC,Option.some.injEq,Prod.mk.injEq] at h;obtain ⟨_,_,rfl⟩:=h;exact AP.refl _
 | .ret,E,H,ctl,E',H',h=>by simp only [evC,Option.some.injEq,Prod.mk.injEq] at h;obtain ⟨_,_,rfl⟩:=h;exact AP.refl _
def CSim (P:Program) (nt:Nat) (c:Code) (ic:IC) (call:Call) (lf:Nat):Prop:=
 ∀ (E:Env) (H:AH) (ctl:Ctl) (E':Env) (H':AH) (β:BM) (a:Act) (w:World) (Q:Exit→Act→World→Prop),evC call lf ic E H=some (ctl,E',H')→EnvRel β E a→nt≤a.tmps.size→a.defers=[]→Rel P β H w→(∀ id,H.n≤id→id<H'.n→β id=none) →
   (∀ β' a' w',EnvRel β' E' a'→nt≤a'.tmps.size→a'.defers=[]→Post P β H w β' H' w'→Q (ctlExit ctl) a' w')→c.wp P Q a w
theorem loop_sim (hF:SimF P call) {nt:Nat} {c:Code} {ic:IC} {lf:Nat} (hc:CSim P nt c ic call lf):∀ (n:Nat) {E H ctl E' H'} {β:BM} {a:Act} {w:World} {Q:Exit→Act→World→Prop},
  loopN (evC call lf ic) n E H=some (ctl,E',H')→EnvRel β E a→nt≤a.tmps.size→a.defers=[]→Rel P β H w→(∀ id,H.n≤id→id<H'.n→β id=none) →
  (∀ β' a' w',EnvRel β' E' a'→nt≤a'.tmps.size→a'.defers=[]→Post P β H w β' H' w'→Q (ctlExit ctl) a' w')→Code.rounds P c Q n a w
 | 0,_,_,_,_,_,_,_,_,_,h,_,_,_,_,_,_=>by cases h
 | n+1,E,H,ctl,E',H',β,a,w,Q,h,henv,hnt,hdf,hr,hn,hQ=>by
   unfold loopN at h
   rw [rounds_succ]
   split at h
   ·rename_i E1 H1 h1
    have a1:=evC_ap hF h1
    have a2:=loopN_ap (fun h=>evC_ap hF h) h
    refine hc _ _ _ _ _ _ _ _ _ h1 henv hnt hdf hr (fun id e1 e2=>hn id e1 (Nat.lt_of_lt_of_le e2 a2.mono)) ?_
    intro β' a' w' k1 k2 k3 k4
    refine loop_sim hF hc n h k1 k2 k3 k4.rel ?_ ?_
    ·intro id e1 e2
     rw [k4.old id (.inr e1)]
     exact hn id (Nat.le_trans a1.mono e1) e2
    ·intro β2 a2' w2 g1 g2 g3 g4
     exact hQ β2 a2' w2 g1 g2 g3 (Post.trans a1 a2 hn k4 g4)
   ·rename_i hno
    refine hc _ _ _ _ _ _ _ _ _ h henv hnt hdf hr hn ?_
    intro β' a' w' k1 k2 k3 k4
    have:=hQ β' a' w' k1 k2 k3 k4
    cases ctl with
    | normal=>exact (hno _ _ h).elim
    | exit id=>exact this
    | ret=>exact this
theorem code_sim (hm:P.follows .mixedOrders=true) (hF:SimF P call) {nt lf:Nat}:∀ {c:Code} {ic:IC},ccode P nt c=some ic→CSim P nt c ic call lf
 | .skip,ic,hc=>by
   simp only [ccode,Option.some.injEq] at hc
   subst hc
   intro E H ctl E' H' β a w Q h henv hnt hdf hr hn hQ
   simp only [evC,Option.some.injEq,Prod.mk.injEq] at h
   obtain ⟨rfl,rfl,rfl⟩:=h
   exact wp_skip (hQ β a w henv hnt hdf (Post.refl hr))
 | .region id ops draw,ic,hc=>by
   intro E H ctl E' H' β a w Q h henv hnt hdf hr hn hQ
   refine region_sim hm hF hc h henv hnt hdf hr hn (fun β' a' w' h1 h2 h3 h4 h5=>?_)
   have:=hQ β' a' w' h1 h2 h3 h4
   rw [h5] at this
   exact this
 | .seq x y,ic,hc=>by
   unfold ccode at hc
   split at hc
   ·cases hc
   ·rename_i ix hx
    split at hc
    ·cases hc
    ·rename_i iy hy
     cases hc
     intro E H ctl E' H' β a w Q h henv hnt hdf hr hn hQ
     simp only [evC] at h
     split at h
     ·rename_i E1 H1 h1
      have a1:=evC_ap hF h1
      have a2:=evC_ap hF h
      refine wp_seq (code_sim hm hF hx _ _ _ _ _ _ _ _ _ h1 henv hnt hdf hr (fun id e1 e2=>hn id e1 (Nat.lt_of_lt_of_le e2 a2.mono)) ?_)
      intro β' a' w' k1 k2 k3 k4
      show y.wp P Q a' w'
      refine code_sim hm hF hy _ _ _ _ _ _ _ _ _ h k1 k2 k3 k4.rel ?_ ?_
      ·intro id e1 e2
       rw [k4.old id (.inr e1)]
       exact hn id (Nat.le_trans a1.mono e1) e2
      ·intro β2 a2' w2 g1 g2 g3 g4
       exact hQ β2 a2' w2 g1 g2 g3 (Post.trans a1 a2 hn k4 g4)
     ·rename_i hno
      refine wp_seq (code_sim hm hF hx _ _ _ _ _ _ _ _ _ h henv hnt hdf hr hn ?_)
      intro β' a' w' k1 k2 k3 k4
      have:=hQ β' a' w' k1 k2 k3 k4
      cases ctl with
      | normal=>exact (hno _ _ h).elim
      | exit id=>exact this
      | ret=>exact this
 | .cond c x y,ic,hc=>by
   unfold ccode at hc
   split at hc
   ·rename_i ho
    split at hc
    ·cases hc
    ·rename_i ix hx
     split at hc
     ·cases hc
     ·rename_i iy hy
      cases hc
      intro E H ctl E' H' β a w Q h henv hnt hdf hr hn hQ
      have h1:Ok1 β E a c:=ok1_of hr.glob ho (fun t v _ hv=>henv t v hv)
      simp only [evC] at h
      split at h
      ·rename_i hcv
       exact wp_cond_true (h1 _ hcv).bool_inv (code_sim hm hF hx _ _ _ _ _ _ _ _ _ h henv hnt hdf hr hn hQ)
      ·rename_i hcv
       exact wp_cond_false (h1 _ hcv).bool_inv (code_sim hm hF hy _ _ _ _ _ _ _ _ _ h henv hnt hdf hr hn hQ)
      ·cases h
   ·cases hc
 | .block id b,ic,hc=>by
   unfold ccode at hc
   split at hc
   ·cases hc
   ·rename_i ib hb
    cases hc
    intro E H ctl E' H' β a w Q h henv hnt hdf hr hn hQ
    simp only [evC] at h
    split at h
    ·rename_i k E1 H1 h1
     simp only [Option.some.injEq,Prod.mk.injEq] at h
     obtain ⟨rfl,rfl,rfl⟩:=h
     refine wp_block (code_sim hm hF hb _ _ _ _ _ _ _ _ _ h1 henv hnt hdf hr hn ?_)
     intro β' a' w' k1 k2 k3 k4
     have:=hQ β' a' w' k1 k2 k3 k4
     show (if k=id then Q .normal a' w' else Q (.exit k) a' w')
     by_cases hk:k=id
     ·subst hk
      simp only [Nat.beq_refl,cond_true] at this
      rw [if_pos rfl];exact this
     ·rw [if_neg hk]
      rw [beq_ne hk] at this
      exact this
    ·rename_i hno
     refine wp_block (code_sim hm hF hb _ _ _ _ _ _ _ _ _ h henv hnt hdf hr hn ?_)
     intro β' a' w' k1 k2 k3 k4
     have:=hQ β' a' w' k1 k2 k3 k4
     cases ctl with
     | normal=>exact this
     | exit k=>exact (hno _ _ _ h).elim
     | ret=>exact this
 | .loop b,ic,hc=>by
   unfold ccode at hc
   split at hc
   ·cases hc
   ·rename_i ib hb
    cases hc
    intro E H ctl E' H' β a w Q h henv hnt hdf hr hn hQ
    simp only [evC] at h
    exact wp_loop_rounds lf (loop_sim hF (code_sim hm hF hb) lf h henv hnt hdf hr hn hQ)
 | .exit id,ic,hc=>by
   simp only [ccode,Option.some.injEq] at hc
   subst hc
   intro E H ctl E' H' β a w Q h henv hnt hdf hr hn hQ
   simp only [evC,Option.some.injEq,Prod.mk.injEq] at h
   obtain ⟨rfl,rfl,rfl⟩:=h
   exact wp_exit (hQ β a w henv hnt hdf (Post.refl hr))
 | .ret,ic,hc=>by
   simp only [ccode,Option.some.injEq] at hc
   subst hc
   intro E H ctl E' H' β a w Q h henv hnt hdf hr hn hQ
   simp only [evC,Option.some.injEq,Prod.mk.injEq] at h
   obtain ⟨rfl,rfl,rfl⟩:=h
   exact wp_ret (hQ β a w henv hnt hdf (Post.refl hr))
 | .rangeFunc ..,ic,hc=>by simp [ccode] at hc
 | .scope _,ic,hc=>by simp [ccode] at hc
 | .label _,ic,hc=>by simp [ccode] at hc
 | .goto _,ic,hc=>by simp [ccode] at hc
 | .refuse _,ic,hc=>by simp [ccode] at hc
def resF (tmps:Array Value):ResultVar→Sem Value
 | .tmp t=>pure (tmps.getD t undef)
 | .cell b t=>do loadVar t (←asAddr (tmps.getD b undef))
theorem results_eq (fn:Func) (tmps:Array Value):results fn tmps=(do let vs ←fn.results.mapM (resF tmps);pure (if h:vs.size=1 then vs[0] else .tuple vs)):=by
 unfold results
 congr
theorem resOf_sim {E:Env} {H:AH} {β:BM} {a:Act} {w:World} (henv:EnvRel β E a) (hr:Rel P β H w):∀ {rs:List ResultVar} {irs:List IRes} {vs:List Value},cres P rs=some irs→resOf E H irs=some vs →
  ∃ us,(rs.mapM (resF a.tmps)).run P w=.ok us w∧VRs β vs us
 | [],irs,vs,hc,h=>by
   simp only [cres,Option.some.injEq] at hc
   subst hc
   simp only [resOf,Option.some.injEq] at h
   subst h
   exact ⟨[],by simp,.nil⟩
 | .tmp t::rs,irs,vs,hc,h=>by
   unfold cres at hc
   split at hc
   ·cases hc
   ·rename_i s hs
    cases hc
    simp only [resOf] at h
    split at h
    ·cases h
    ·rename_i v hv
     split at h
     ·cases h
     ·rename_i vs' hvs
      cases h
      obtain ⟨us,r1,r2⟩:=resOf_sim henv hr hs hvs
      refine ⟨a.tmps.getD t undef::us,?_,.cons (henv t v hv) r2⟩
      simp only [List.mapM_cons,resF,Sem.run_bind,Sem.run_pure,Result.andThen_ok,r1]
 | .cell b t::rs,irs,vs,hc,h=>by
   unfold cres at hc
   split at hc
   ·rename_i g s hg hs
    cases hc
    simp only [resOf] at h
    split at h
    ·rename_i ad hv
     split at h
     ·cases h
     ·rename_i bk hb
      split at h
      ·cases h
      ·rename_i v hp
       split at h
       ·cases h
       ·rename_i vs' hvs
        cases h
        obtain ⟨us,r1,r2⟩:=resOf_sim henv hr hs hvs
        obtain ⟨bi,hsp,hβ,he⟩:=(henv b _ hv).ptr_inv
        obtain ⟨v',l1,l2⟩:=load_run (P:=P) (w:=w) hg hr hβ hb hp
        refine ⟨v'::us,?_,.cons l2 r2⟩
        simp only [List.mapM_cons,resF,he,asAddr,Sem.run_bind,Sem.run_pure,Result.andThen_ok,l1,r1]
    ·cases h
   ·cases hc
theorem results_sim {fn:Func} {E:Env} {H:AH} {β:BM} {a:Act} {w:World} {irs:List IRes} {vs:List Value} (henv:EnvRel β E a) (hr:Rel P β H w) (hc:cres P fn.results.toList=some irs) (h:resOf E H irs=some vs) :
  ∃ v',(results fn a.tmps).run P w=.ok v' w∧VR β (tupled vs) v':=by
 obtain ⟨us,r1,r2⟩:=resOf_sim henv hr hc h
 have hl:=r2.length
 have hrun:(results fn a.tmps).run P w=.ok (if h:us.toArray.size=1 then us.toArray[0] else .tuple us.toArray) w:=by
  rw [results_eq,Sem.run_bind,Array.mapM_eq_mapM_toList,Sem.run_map,r1]
  rfl
 refine ⟨_,hrun,?_⟩
 cases r2 with
 | nil=>simp only [tupled];exact .tuple .nil
 | cons h1 h2=>
   cases h2 with
   | nil=>simpa [tupled] using h1
   | @cons _ w2 _ ws h2 h3=>
     rw [dif_neg (by simp)]
     simp only [tupled]
     exact .tuple (.cons h1 (.cons h2 h3))
theorem envOf_get:∀ {vs:List Value} {k t:Nat},(envOf vs k).get t=if k≤t then vs[t-k]? else none
 | [],k,t=>by simp [envOf]
 | v::vs,k,t=>by
   unfold envOf
   rw [T.get_set,envOf_get]
   by_cases h:t=k
   ·subst h;simp
   ·rw [if_neg h]
    by_cases h1:k≤t
    ·rw [if_pos h1,if_pos (by omega)]
     have:t-k=(t-(k+1))+1:=by omega
     rw [this,List.getElem?_cons_succ]
    ·rw [if_neg h1,if_neg (by omega)]
theorem cfunc_some {f : Nat} {fi : FI} (h : cfunc P f = some fi) : ∃ fn b, P.funcs[f]? = some fn ∧ fn.body = some b ∧ ccode P fn.ntmps b = some fi.code ∧ cres P fn.results.toList = some fi.res ∧ (fn.name == "runtime.NumGoroutine") = false := by
 unfold cfunc at h
 split at h
 ·cases h
 ·rename_i fn hfn
  split at h
  ·cases h
  ·rename_i b hb
   split at h
   ·rename_i c r h1 h2
    split at h
    ·cases h
    ·rename_i hn
     cases h
     exact ⟨fn,b,hfn,hb,h1,h2,by simpa using hn⟩
   ·cases h
theorem func_sim (hm:P.follows .mixedOrders=true) (hF:SimF P call) {f lf:Nat} {fi:FI} (hc:cfunc P f=some fi) {args:List Value} {H:AH} {ctl:Ctl} {E':Env} {H':AH} {vs:List Value}
  (he:evC call lf fi.code (envOf args 0) H=some (ctl,E',H')) (hctl:ctl=.normal∨ctl=.ret) (hres:resOf E' H' fi.res=some vs) :
  AP H H' ∧ (∃ fn, P.funcs[f]? = some fn ∧ fn.body.isSome = true ∧ (fn.name == "runtime.NumGoroutine") = false) ∧
  ∀ β w cargs,VRs β args cargs→Rel P β H w→(∀ id,H.n≤id→id<H'.n→β id=none) →
    Calls P f ⟨cargs⟩ w fun e w'=>∃ β' v',e=.returned v'∧VR β' (tupled vs) v'∧Post P β H w β' H' w':=by
 obtain ⟨fn,b,h1,h2,h3,h4,h5⟩:=cfunc_some hc
 refine ⟨evC_ap hF he,⟨fn,h1,by rw [h2];rfl,h5⟩,?_⟩
 intro β w cargs hargs hr hn
 have hl:=hargs.length
 refine calls_of_wp h1 h2 (code_sim hm hF h3 _ _ _ _ _ β _ _ _ he ?_ ?_ rfl hr hn ?_)
 ·intro t v hv
  rw [envOf_get,if_pos (Nat.zero_le _),Nat.sub_zero] at hv
  obtain ⟨u,hu,hvr⟩:=hargs.get hv
  have hlt:=(List.getElem?_eq_some_iff.1 hu).1
  have:((⟨cargs⟩:Array Value)++Array.replicate (fn.ntmps-(⟨cargs⟩:Array Value).size) undef).getD t undef=u:=by
   rw [Array.getD_eq_getD_getElem?,Array.getElem?_append_left (by simpa using hlt)]
   have:(⟨cargs⟩:Array Value)[t]?=some u:=by rw [←Array.getElem?_toList];exact hu
   rw [this];rfl
  rw [this]
  exact hvr
 ·simp;omega
 ·intro β' a' w' k1 k2 k3 k4
  obtain ⟨v',r1,r2⟩:=results_sim (fn:=fn) k1 k4.rel h4 hres
  rcases hctl with rfl | rfl
  ·exact ⟨k3,v',r1,β',v',rfl,r2,k4⟩
  ·exact ⟨k3,v',r1,β',v',rfl,r2,k4⟩
def SimG (P:Program) (f:Nat) (g:List Value→AH→Option (Value×AH)):Prop:=
 ∀ args H v H1, g args H = some (v, H1) → AP H H1 ∧ (∃ fn, P.funcs[f]? = some fn ∧ fn.body.isSome = true ∧ (fn.name == "runtime.NumGoroutine") = false) ∧
   ∀ β w cargs,VRs β args cargs→Rel P β H w→(∀ id,H.n≤id→id<H1.n→β id=none) →
     Calls P f ⟨cargs⟩ w fun e w'=>∃ β' v',e=.returned v'∧VR β' v v'∧Post P β H w β' H1 w'
theorem evF_sim (hm:P.follows .mixedOrders=true) {ft:T FI} {ext:Nat→Option (List Value→AH→Option (Value×AH))} (hft:∀ f fi,ft.get f=some fi→cfunc P f=some fi) (hext:∀ f g,ext f=some g→SimG P f g):∀ n,SimF P (evF ft ext n)
 | 0=>fun f args H v H1 h=>by cases h
 | n+1=>fun f args H v H1 h=>by
   unfold evF at h
   split at h
   ·rename_i g hg
    exact hext f g hg args H v H1 h
   ·split at h
    ·cases h
    ·rename_i fi hfi
     have ih:=evF_sim hm hft hext n
     split at h
     ·rename_i E' H' he
      split at h
      ·cases h
      ·rename_i vs hres
       simp only [Option.some.injEq,Prod.mk.injEq] at h
       obtain ⟨rfl,rfl⟩:=h
       exact func_sim hm ih (hft f fi hfi) he (.inl rfl) hres
     ·rename_i E' H' he
      split at h
      ·cases h
      ·rename_i vs hres
       simp only [Option.some.injEq,Prod.mk.injEq] at h
       obtain ⟨rfl,rfl⟩:=h
       exact func_sim hm ih (hft f fi hfi) he (.inr rfl) hres
     ·cases h
end
end Go.AL
end
section
set_option linter.unusedSimpArgs false
set_option linter.unusedVariables false
namespace Go.AL
def T.ofList {α:Type}:List (Nat×α)→T α
 | []=>.nil
 | (n,x)::r=>(T.ofList r).set n x
theorem T.get_ofList {α:Type}:∀ {l:List (Nat×α)} {n:Nat} {x:α},(T.ofList l).get n=some x→(n,x)∈l
 | [],n,x,h=>by cases h
 | (m,y)::r,n,x,h=>by
   unfold T.ofList at h
   rw [T.get_set] at h
   split at h
   ·rename_i e;subst e;cases h;exact List.mem_cons_self
   ·exact List.mem_cons_of_mem _ (T.get_ofList h)
def AllOk (P:Program):List (Nat×FI)→Prop
 | []=>True
 | p::r=>cfunc P p.1=some p.2∧AllOk P r
theorem AllOk.mem {P:Program}:∀ {l:List (Nat×FI)},AllOk P l→∀ {p:Nat×FI},p∈l→cfunc P p.1=some p.2
 | [],_,p,h=>by cases h
 | q::r,hq,p,h=>by
   rcases List.mem_cons.1 h with rfl | h
   ·exact hq.1
   ·exact AllOk.mem hq.2 h
theorem ft_of {P:Program} {l:List (Nat×FI)} {ft:T FI} (h:AllOk P l) (he:T.ofList l=ft):∀ f fi,ft.get f=some fi→cfunc P f=some fi:=by
 subst he
 intro f fi hf
 exact h.mem (T.get_ofList hf)
def noExt:Nat→Option (List Value→AH→Option (Value×AH)):=fun _=>none
def globsOf (H:AH):Nat→T Blk
 | 0=>.nil
 | g+1=>match H.t.get g with
   | none=>globsOf H g
   | some b=>(globsOf H g).set g b
theorem globsOf_get (H:AH):∀ (G g:Nat),(globsOf H G).get g=if g<G then H.t.get g else none
 | 0,g=>by simp [globsOf]
 | G+1,g=>by
   unfold globsOf
   cases h:H.t.get G with
   | none=>
     simp only
     rw [globsOf_get H G g]
     by_cases hg:g<G
     ·rw [if_pos hg,if_pos (by omega)]
     ·rw [if_neg hg]
      by_cases he:g=G
      ·subst he;rw [if_pos (by omega),h]
      ·rw [if_neg (by omega)]
   | some b=>
     simp only
     rw [T.get_set,globsOf_get H G g]
     by_cases he:g=G
     ·subst he;rw [if_pos rfl,if_pos (by omega),h]
     ·rw [if_neg he]
      by_cases hg:g<G
      ·rw [if_pos hg,if_pos (by omega)]
      ·rw [if_neg hg,if_neg (by omega)]
def globH (H:AH) (G:Nat):AH:={ t:=globsOf H G,n:=G,wl:=G }
def globOk (H:AH):Nat→Bool
 | 0=>true
 | g+1=>(match H.t.get g with
   | none=>true
   | some b=>b.kind.beq 1&&b.cells.all plainS)&&globOk H g
theorem globOk_get {H:AH}:∀ {G:Nat},globOk H G=true→∀ g b,g<G→H.t.get g=some b→b.kind=1∧b.cells.all plainS=true
 | 0,_,g,b,h,_=>by omega
 | G+1,h,g,b,hg,hb=>by
   simp only [globOk,Bool.and_eq_true] at h
   by_cases he:g=G
   ·subst he
    rw [hb] at h
    simp only [Bool.and_eq_true] at h
    exact ⟨Nat.eq_of_beq_eq_true h.1.1,h.1.2⟩
   ·exact globOk_get h.2 g b (by omega) hb
end Go.AL
end
section
set_option linter.unusedSimpArgs false
set_option linter.unusedVariables false
namespace Go.AL
theorem top_calls {P:Program} {call:Call} (hF:SimF P call) {f:Nat} {args cargs:List Value} {H0 H':AH} {v:Value} {β0:BM} {W:World} (hv:plainS v=true) (hev:call f args H0=some (v,H'))
  (hargs:VRs β0 args cargs) (hrel:Rel P β0 H0 W) (hfr:∀ id,H0.n≤id→β0 id=none) (hro:∀ id bk,H0.t.get id=some bk→bk.kind=1) :
  Calls P f ⟨cargs⟩ W fun e W'=>e=.returned v∧Go.RowKit.Below W.heap.size W W':=by
 refine ((hF f args H0 v H' hev).2.2 β0 W cargs hargs hrel (fun id h _=>hfr id h)).mono ?_
 rintro e w' ⟨β',v',rfl,hvr,hp⟩
 refine ⟨?_,⟨hp.os,hp.tape,hp.output,hp.size,fun k hk=>hp.frame k hk fun id bi bk h1 h2 _=>absurd (hro id bk h1) h2⟩⟩
 cases hvr<;>first | rfl | (simp [plainS] at hv)
end Go.AL
end
