/- From a law's contract to its call in the model. -/
import Derived.Test.YtdgbdkfoeaollaaGreatDoorVA
import Derived.Test.YtdgbdkfoeaollaaGreatDoorALe
import Derived.Test.YtdgbdkfoeaollaaGreatDoorLaid
section
namespace Go.Proofs.YtdgbdkfoeaollaaGreatDoor.V
open Go Go.AL Go.SX
def tabs:List Row:=[tabRow 0 (u8s Go.Proofs.YtdgbdkfoeaollaaGreatDoor.orsL),tabRow 1 (u8s Go.Proofs.YtdgbdkfoeaollaaGreatDoor.notsL),tabRow 2 (u8s Go.Proofs.YtdgbdkfoeaollaaGreatDoor.andsL),tabRow 3 (u8s Go.Proofs.YtdgbdkfoeaollaaGreatDoor.xorsL)]
theorem tabs_at {W:World} (h:Glob W):RowsAt W tabs:=fun i r hr=>by
 match i,hr with
 | 0,hr=>obtain rfl:=Option.some.inj hr;exact tab_row h.ors (by decide) (by kernel_rfl) (by decide)
 | 1,hr=>obtain rfl:=Option.some.inj hr;exact tab_row h.nots (by decide) (by kernel_rfl) (by decide)
 | 2,hr=>obtain rfl:=Option.some.inj hr;exact tab_row h.ands (by decide) (by kernel_rfl) (by decide)
 | 3,hr=>obtain rfl:=Option.some.inj hr;exact tab_row h.xors (by decide) (by kernel_rfl) (by decide)
theorem rows_app {W:World} {a b:List Row} (ha:RowsAt W a) (hb:RowsAt W b):RowsAt W (a++b):=fun i r hr=>by
 by_cases h:i<a.length
 ·rw [List.getElem?_append_left h] at hr;exact ha i r hr
 ·rw [List.getElem?_append_right (by omega)] at hr;exact hb _ r hr
theorem tabs_β {rs:List Row}:∀ g,g<Tryz.prog.globals.size→rowβ (tabs++rs) g=some ⟨g,0,0⟩:=fun g hg=>by
 rw [four] at hg
 match g,hg with
 | 0,_=>exact tab_β (vs:=u8s Go.Proofs.YtdgbdkfoeaollaaGreatDoor.orsL) rfl (by decide)
 | 1,_=>exact tab_β (vs:=u8s Go.Proofs.YtdgbdkfoeaollaaGreatDoor.notsL) rfl (by decide)
 | 2,_=>exact tab_β (vs:=u8s Go.Proofs.YtdgbdkfoeaollaaGreatDoor.andsL) rfl (by decide)
 | 3,_=>exact tab_β (vs:=u8s Go.Proofs.YtdgbdkfoeaollaaGreatDoor.xorsL) rfl (by decide)
 | n+4,h=>exact absurd h (by omega)
theorem gl_rows (rs:List Row):Gl TB (rowH (tabs++rs)):=fun k l hk=>by
 have h4:k<4:=(List.getElem?_eq_some_iff.1 hk).1
 refine ⟨by show k<(tabs++rs).length;rw [List.length_append];exact Nat.lt_of_lt_of_le h4 (Nat.le_add_right 4 _),?_⟩
 rw [rowH_get,List.getElem?_append_left (show k<4 from h4)]
 match k,h4,hk with
 | 0,_,hk=>obtain rfl:=Option.some.inj hk;rfl
 | 1,_,hk=>obtain rfl:=Option.some.inj hk;rfl
 | 2,_,hk=>obtain rfl:=Option.some.inj hk;rfl
 | 3,_,hk=>obtain rfl:=Option.some.inj hk;rfl
theorem row_rdS {A:Nat→Prop} {W:World} {rs:List Row} (h:RowsAt W rs) {i:Nat} {r:Row} {l:List Int} (hA:∀ id,¬ A id) (hr:rs[i]?=some r) (hl:r.cs=intV l) (hlen:r.len=l.length):RdS A (rowH rs) (r.val i) (intV l):=by
 have hrow:=h i r hr
 unfold Row.val
 cases ha:r.A with
 | none=>
   obtain ⟨h1,h2⟩:=hrow.nil ha
   have:l=[]:=List.length_eq_zero_iff.1 (by omega)
   subst this
   exact ⟨none,0,rfl,.inr (Nat.le_refl _),fun h=>absurd rfl h⟩
 | some a=>
   simp only
   have e:(intV l).length=l.length:=by simp [intV]
   refine ⟨some ⟨i,a.off,none⟩,r.cap,by rw [hlen,e],.inr (by have:=hrow.le;omega),fun hne=>⟨_,rfl,r.blk,(List.getElem?_eq_some_iff.1 hr).1,hA _,by rw [rowH_get,hr];rfl,fun j b hj=>?_⟩⟩
   unfold Row.blk
   rw [ha]
   simp only
   rw [List.getElem?_append_right (by simp),List.length_replicate,hl,show a.off+j-a.off=j by omega,hj]
theorem law_of {W:World} {rs:List Row} {k:Nat} {args:List SV} {vs cargs:List Value} (hG:Glob W) (hrs:RowsAt W rs) (h:FvC CX TB (.f k [] []) args [] (RB true)) (hda:DenL (Own [] []) [] (rowH (tabs++rs)) args vs) (hargs:VRs (rowβ (tabs++rs)) vs cargs) :
  Calls Tryz.prog k ⟨cargs⟩ W fun e W'=>e=.returned (.bool true)∧Go.RowKit.Below W.heap.size W W':=by
 have ho:Obs [] [] (rowH (tabs++rs)):=⟨rfl,fun i o v h=>by simp at h,fun i j o o' v v' id h=>by simp at h⟩
 obtain ⟨k',fs,cs,e,hr⟩:=h (rowH (tabs++rs)) [] (.func (.func k) ⟨[]⟩ ⟨[]⟩) vs ho (gl_rows rs) ⟨[],[],rfl,rfl,rfl⟩ hda
 cases e
 refine law_callsG (C:=CX) IR.mixed IR.ft_ok extV_sim (by rw [four];exact Nat.le_trans (by decide:4≤tabs.length) (by rw [List.length_append];exact Nat.le_add_right _ _)) tabs_β (rows_app (tabs_at hG) hrs) hargs ?_
 have e2:([]:List Value)++(vs++[])=vs:=by simp
 rw [e2] at hr
 refine hr.mono fun v H' ⟨m',r,ro,⟨x,h1,h2,h3⟩,h4,h5,h6,_⟩=>?_
 subst h1 h3
 exact h6
end Go.Proofs.YtdgbdkfoeaollaaGreatDoor.V
end
section
set_option linter.unusedVariables false
namespace Go.Proofs.YtdgbdkfoeaollaaGreatDoor.V
open Go Go.AL Go.SX
inductive LA where
 | v (A:Option Addr) (c:Nat) (s:Bool) (l:List Int)
 | i (k:IntKind) (x:Int)
 | b (x:Bool)
def rowsA:List LA→List Row
 | []=>[]
 | .v A c s l::r=>⟨A,l.length,c,l.map (.int .u8)⟩::rowsA r
 | .i _ _::r=>rowsA r
 | .b _::r=>rowsA r
def svA:List LA→List SV
 | []=>[]
 | .v A c s l::r=>.a [.u l,.b s]::svA r
 | .i k x::r=>.i k x::svA r
 | .b x::r=>.b x::svA r
def caA:List LA→List Value
 | []=>[]
 | .v A c s l::r=>.agg #[.slice A l.length c,.bool s]::caA r
 | .i k x::r=>.int k x::caA r
 | .b x::r=>.bool x::caA r
def vsA:Nat→List LA→List Value
 | _,[]=>[]
 | n,.v A c s l::r=>.agg ⟨[Row.val n ⟨A,l.length,c,l.map (.int .u8)⟩,.bool s]⟩::vsA (n+1) r
 | n,.i k x::r=>.int k x::vsA n r
 | n,.b x::r=>.bool x::vsA n r
theorem argsA {W:World} {rs:List Row} (hall:RowsAt W rs) {A:Nat→Prop} (hA:∀ id,¬ A id):∀ (xs:List LA) (n:Nat),(∀ i r,(rowsA xs)[i]?=some r→rs[n+i]?=some r) →
  DenL A [] (rowH rs) (svA xs) (vsA n xs)∧VRs (rowβ rs) (vsA n xs) (caA xs)
 | [],n,_=>⟨rfl,.nil⟩
 | .v Ad c s l::r,n,h=>by
   obtain ⟨h1,h2⟩:=argsA hall hA r (n+1) fun i x hx=>by
    have:=h (i+1) x hx
    rwa [show n+(i+1)=n+1+i by omega] at this
   have h0:rs[n]?=some ⟨Ad,l.length,c,l.map (.int .u8)⟩:=h 0 _ rfl
   exact ⟨⟨_,_,rfl,⟨_,rfl,_,_,rfl,row_rdS hall hA h0 rfl rfl,_,_,rfl,rfl,rfl⟩,h1⟩,.cons (.agg (.cons (row_val hall h0) (.cons (.bool s) .nil))) h2⟩
 | .i k x::r,n,h=>by
   obtain ⟨h1,h2⟩:=argsA hall hA r n h
   exact ⟨⟨_,_,rfl,rfl,h1⟩,.cons (.int k x) h2⟩
 | .b x::r,n,h=>by
   obtain ⟨h1,h2⟩:=argsA hall hA r n h
   exact ⟨⟨_,_,rfl,rfl,h1⟩,.cons (.bool x) h2⟩
theorem law_args {W:World} {k:Nat} (xs:List LA) (hG:Glob W) (hr:RowsAt W (rowsA xs)) (h:FvC CX TB (.f k [] []) (svA xs) [] (RB true)) :
  Calls Tryz.prog k ⟨caA xs⟩ W fun e W'=>e=.returned (.bool true)∧Go.RowKit.Below W.heap.size W W':=by
 have hall:=rows_app (tabs_at hG) hr
 have hA:∀ id,¬ Own [] [] id:=by rintro id ⟨i,o,v,h1,_⟩;simp at h1
 obtain ⟨h1,h2⟩:=argsA hall hA xs 4 fun i r hx=>by
  rw [List.getElem?_append_right (show 4≤4+i by omega),show 4+i-tabs.length=i from Nat.add_sub_cancel_left 4 i]
  exact hx
 exact law_of hG hr h h1 h2
theorem rows_nil {W:World}:RowsAt W []:=fun i r h=>by simp at h
end Go.Proofs.YtdgbdkfoeaollaaGreatDoor.V
end
