/- VecExamples: pieces of a drawn region that writes nothing; what is known of answers. -/
import Derived.Test.YtdgbdkfoeaollaaGreatDoorVZe
import Derived.Test.YtdgbdkfoeaollaaGreatDoorVZd
import Derived.Test.YtdgbdkfoeaollaaGreatDoorVG
import Derived.Test.YtdgbdkfoeaollaaGreatDoorALe
set_option linter.unusedSimpArgs false
set_option linter.unusedVariables false
set_option maxRecDepth 100000
namespace Go.Proofs.YtdgbdkfoeaollaaGreatDoor.V
open Go Go.AL Go.SX
theorem evOps_app {c:AL.Call}:∀ (a b:List IOper) {E H E1 H1 f1 E2 H2 f2},evOps c a E H=some (E1,H1,f1)→evOps c b E1 H1=some (E2,H2,f2)→evOps c (a++b) E H=some (E2,H2,f1++f2)
 | [],b,E,H,E1,H1,f1,E2,H2,f2,h1,h2=>by
   simp only [evOps,Option.some.injEq,Prod.mk.injEq] at h1
   obtain ⟨rfl,rfl,rfl⟩:=h1
   exact h2
 | o::os,b,E,H,E1,H1,f1,E2,H2,f2,h1,h2=>by
   simp only [List.cons_append,evOps,cond_eq_ite] at h1 ⊢
   split at h1
   ·cases h1
   ·split at h1
    ·split at h1
     ·cases h1
     ·rename_i hw hs
      split at h1
      ·cases h1
      ·rename_i h3
       simp only [Option.some.injEq,Prod.mk.injEq] at h1
       obtain ⟨rfl,rfl,rfl⟩:=h1
       have:=evOps_app os b h3 h2
       simp only [this];rw [if_pos (by assumption)];rfl
    ·split at h1
     ·cases h1
     ·split at h1
      ·cases h1
      ·rename_i h3
       simp only [Option.some.injEq,Prod.mk.injEq] at h1
       obtain ⟨rfl,rfl,rfl⟩:=h1
       have:=evOps_app os b h3 h2
       simp only [this];rw [if_neg (by assumption)];rfl
   ·split at h1
    ·cases h1
    ·rename_i h3
     simp only [Option.some.injEq,Prod.mk.injEq] at h1
     obtain ⟨rfl,rfl,rfl⟩:=h1
     have:=evOps_app os b h3 h2
     simp only [this];rfl
theorem ow_app {C:Ctx} {E:Env} {H:AH} {a b:List IOper} {Q:Env→AH→List (Bool×Bool)→Prop} (h:Ow C a E H fun E1 H1 f1=>Ow C b E1 H1 fun E2 H2 f2=>Q E2 H2 (f1++f2)):Ow C (a++b) E H Q:=by
 obtain ⟨n,E1,H1,f1,h1,n2,E2,H2,f2,h2,h3⟩:=h
 exact ⟨max n n2,E2,H2,f1++f2,evOps_app a b (evOps_mono (evF_mono (Nat.le_max_left n n2)) h1) (evOps_mono (evF_mono (Nat.le_max_right n n2)) h2),h3⟩
def Pu (B:AH) (D:Bs) (os:List IOper) (s:SX.St) (Q:SX.St→Prop):Prop:=
 ∀ m E H,Sat TB B D m s E H→Ow CX os E H fun E' H' fl=>fl.all (fun x=>!x.2)=true∧∃ s' m',Q s'∧Sat TB B D m' s' E' H'
theorem pu_app {B:AH} {D:Bs} {s:SX.St} {Q Q2:SX.St→Prop} (os:List IOper) (a n:Nat) (h1:Pu B D ((os.drop a).take n) s Q) (h2:∀ s1,Q s1→Pu B D (os.drop (a+n)) s1 Q2):Pu B D (os.drop a) s Q2:=by
 intro m E H hs
 rw [←List.take_append_drop n (os.drop a),List.drop_drop]
 refine ow_app ((h1 m E H hs).mono ?_)
 rintro E1 H1 f1 ⟨g1,s1,m1,q1,hs1⟩
 refine (h2 s1 q1 m1 E1 H1 hs1).mono ?_
 rintro E2 H2 f2 ⟨g2,s2,m2,q2,hs2⟩
 exact ⟨by rw [List.all_append,g1,g2];rfl,s2,m2,q2,hs2⟩
theorem pu_W {B:AH} {D:Bs} {G:Sg} (hG:G=std CX TB B D) {os:List IOper} {s:SX.St} {Q:SX.St→Prop} (h:∀ K:SX.St→List (Bool×Bool)→Prop,(∀ s' fl,fl.all (fun x=>!x.2)=true→Q s'→K s' fl)→WO G TB os s [] K):Pu B D os s Q:=by
 subst hG
 intro m E H hs
 refine (WO_ok (h (fun s' fl=>fl.all (fun x=>!x.2)=true∧Q s') fun s' fl h1 h2=>⟨h1,h2⟩) hs).mono ?_
 rintro E' H' fl ⟨s',m',f2,⟨h1,h2⟩,hle,hs'⟩
 rw [List.reverse_nil,List.nil_append] at h1
 exact ⟨hle.all h1,s',m',h2,hs'⟩
theorem pu_le {B:AH} {d:Nat→Prop} {os:List IOper} {s s':SX.St} {Q:SX.St→Prop} (hl:Le s s') (h:Pu B ⟨d,fun _=>none⟩ os s' Q):Pu B ⟨d,fun _=>none⟩ os s Q:=
 fun m E H hs=>h _ E H (hs.le hl)
theorem pu_region {B:AH} {D:Bs} {ops:List IOper} {bits:List Nat} {s:SX.St} {k:Ctl→SX.St→Prop} {Q:SX.St→Prop} (h:Pu B D ops s Q) (hk:∀ s',Q s'→k .normal s'):SWs CX TB B D (.region true ops bits) s k:=by
 intro m E H hs
 refine Cw.region ((h m E H hs).mono ?_)
 rintro E' H' fl ⟨h1,s',m',h2,hs'⟩
 exact ⟨fun _=>by unfold okDraw;rw [h1];rfl,s',m',hk _ h2,hs'⟩
theorem lp_sws {B:AH} {D:Bs} {G:Sg} (hG:G=std CX TB B D) {b:IC} {s:SX.St} {k:Ctl→SX.St→Prop} (h:SWs CX TB B D (.loop b) s k):G.lp b s k:=by
 subst hG
 exact h
theorem kin {k:Nat} {args:List SV} {ao:List SX.Obj} {kd:IntKind} {v:Int} {c:Nat} (h:FvC CX TB (.f k [] []) args ao (RI kd v)) (e:v=(c:Int)):FvC CX TB (.f k [] []) args ao (fun r ro=>r=.n kd c∧ro=[]):=by
 intro H m vf vs h1 h2 h3 h4
 obtain ⟨k',fs,cs,e',hr⟩:=h H m vf vs h1 h2 h3 h4
 refine ⟨k',fs,cs,e',hr.mono ?_⟩
 rintro v H' ⟨m',r,ro,⟨x,rfl,rfl,hx⟩,q1,q2,q3,q4,q5⟩
 rw [e] at hx
 subst hx
 exact ⟨m',_,[],⟨rfl,rfl⟩,q1,q2,q3,q4,q5⟩
theorem krb {k:Nat} {args:List SV} {ao:List SX.Obj} {a:Int} {b:Bool} (h:FvC CX TB (.f k [] []) args ao (RIB a b)) (c:Bool) (e:b=c):FvC CX TB (.f k [] []) args ao (fun r ro=>∃ x,r=.t [.i .i64 x,.kb c]∧ro=[]∧x=a):=by
 intro H m vf vs h1 h2 h3 h4
 obtain ⟨k',fs,cs,e',hr⟩:=h H m vf vs h1 h2 h3 h4
 refine ⟨k',fs,cs,e',hr.mono ?_⟩
 rintro v H' ⟨m',r,ro,⟨x,y,rfl,rfl,hx,hy⟩,q1,q2,q3,q4,q5⟩
 rw [e] at hy
 subst hy
 exact ⟨m',_,[],⟨x,rfl,rfl,hx⟩,q1,q2,q3,q4,q5⟩
theorem kv1 {k:Nat} {args:List SV} {ao:List SX.Obj} {x:Int} {s:Bool} (h:FvC CX TB (.f k [] []) args ao (RV1 x s)):FvC CX TB (.f k [] []) args ao (RV [x] s):=h.mono fun r ro h=>h.vec
theorem sof_ok (b:ByteArray) (hb:b.size<2^20):FvC CX TB (.f 33 [] []) [.v (.string b)] [] (RV (ofL b) true):=by
 refine fn_ok rfl rfl fun B D G hG q hq=>?_
 cbv
 refine call hG [] (of_ok b hb) ⟨rfl,rfl,rfl⟩ ?_
 rintro _ _ ⟨A,a,rfl,rfl,hA,ha⟩
 cbv
 exact hq _ _ ⟨_,_,rfl,rfl,hA,rfl⟩
theorem concat0_ok:FvC CX TB (.f 24 [] []) [.u []] [] (RE false [] false 4):=by
 intro H m vf vs ho hgl hdf hda
 obtain ⟨w,ws,rfl,⟨a,cap,rfl,-⟩,rfl⟩:=hda
 have h:=V0.concat_ok [] (fun p hp=>by simp at hp) (by simp)
 exact h H m vf _ ho hgl hdf ⟨_,_,rfl,⟨a,0,cap,[],rfl,rfl,by decide,rfl,fun h=>absurd rfl h⟩,rfl⟩
theorem ofL_len (b:ByteArray):(ofL b).length=b.size:=by simp [ofL]
theorem ofL_byt (b:ByteArray):Byt (ofL b):=fun x hx=>by
 obtain ⟨i,_,rfl⟩:=List.mem_map.1 hx
 unfold chI
 repeat' split
 all_goals omega
theorem rep_byt {n:Nat} {x:Int} (h:0≤x):Byt (List.replicate n x):=fun y hy=>by rw [(List.mem_replicate.1 hy).2];exact h
end Go.Proofs.YtdgbdkfoeaollaaGreatDoor.V
