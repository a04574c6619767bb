/- Each operator keeps the order, as the law asks it. -/
import Derived.Test.YtdgbdkfoeaollaaGreatDoorVMb
set_option linter.unusedSimpArgs false
set_option linter.unusedVariables false
set_option maxRecDepth 100000
namespace Go.Proofs.YtdgbdkfoeaollaaGreatDoor.V
open Go Go.AL Go.SX
def Pk (Z : List Int) (z : Bool) (Y : List Int) (y : Bool) : Prop := blw Z z Y y = true ∧ Byt Z ∧ Byt Y ∧ Z.length < 2 ^ 20
theorem pk_mk {Z Y : List Int} {z y : Bool} (h : RB4 Z Y) (hz : z = y) (v : ∀ x ∈ Z, V4 x) (w : ∀ x ∈ Y, V4 x) (l : Z.length < 2 ^ 20) : Pk Z z Y y := by
  subst hz
  exact ⟨h.blw z, fun x hx => (v x hx).1, fun x hx => (w x hx).1, l⟩
theorem pk_1 {x y : Int} {z : Bool} (h : blwF x y = true) (v : V4 x) (w : V4 y) : Pk [x] z [y] z :=
  pk_mk (RB4.one h) rfl (fun a ha => by simp at ha; subst ha; exact v) (fun a ha => by simp at ha; subst ha; exact w) (by simp)
theorem cpB_4 {is : Int → Bool} (l : List Int) (s : Bool) (m : List Int) (t : Bool) : V4 (cpB is l s m t) := by
  unfold cpB
  split
  · exact ofB_4 _
  · exact v4_2
section
variable {l l' m m' : List Int} {s t : Bool} (o : Op2 l l' m m')
include o
theorem wd128 : bwd l m ≤ 128 := (bwd_r (byt_nv o.nl) (byt_nv o.nm)).2
theorem pk_bw {f : Int → Int → Int} (hf : Mn2 f) (h4 : ∀ x y, V4 x → V4 y → V4 (f x y)) : Pk (bwF f l s m t) (bg l s m t) (bwF f l' s m' t) (bg l' s m' t) :=
  pk_mk (o_bw o hf) (o_g o) (o_nv o h4).1.v (o_nv o h4).2.v (by have := (o_nv (s := s) (t := t) o h4).1.len; omega)
theorem pk_ar {F : List Bool → List Bool → Bool → List Bool} {O : List Bool → List Bool → Bool → Bool} (hF : ∀ x y g, O x y g = true → (F x y g).length = x.length) : Pk (arL F O l s m t) (bg l s m t) (arL F O l' s m' t) (bg l' s m' t) :=
  pk_mk (ar_mn hF o) (o_g o) (arL_v4 hF l m s t).2 (arL_v4 hF l' m' s t).2 (by rw [(arL_v4 hF l m s t).1]; have := wd128 o; omega)
theorem pk_to {F : List Bool → List Bool → List Bool} (hF : ∀ x y, (F x y).length = x.length) : Pk (toL F l s m t) (bg l s m t) (toL F l' s m' t) (bg l' s m' t) := pk_ar o fun x y _ _ => hF x y
theorem pk_div : Pk (divL l s m t) (bg l s m t) (divL l' s m' t) (bg l' s m' t) := pk_ar o fun x y g h => (dm_len (of_decide_eq_true h)).1
theorem pk_mod : Pk (modL l s m t) (bg l s m t) (modL l' s m' t) (bg l' s m' t) := pk_ar o fun x y g h => (dm_len (of_decide_eq_true h)).2
theorem pk_pow : Pk (powL l s m t) (nS l s) (powL l' s m' t) (nS l' s) :=
  pk_mk (pow_mn o) (by rw [nS_id o.nl, nS_id o.nl']) (powL_v4 o.nl).2 (powL_v4 o.nl').2 (by rw [(powL_v4 o.nl).1]; have := o.nl.len; omega)
theorem pk_eq : Pk [eqB l s m t] false [eqB l' s m' t] false :=
  pk_1 (o_eq o) (fld_4 bAnd_44 (o_nv o bEq_44).1) (fld_4 bAnd_44 (o_nv o bEq_44).2)
theorem pk_ne : Pk [bNot (eqB l s m t)] false [bNot (eqB l' s m' t)] false :=
  pk_1 (mnNot (fld_4 bAnd_44 (o_nv o bEq_44).1) (fld_4 bAnd_44 (o_nv o bEq_44).2) (o_eq o)) (bNot_4 (fld_4 bAnd_44 (o_nv o bEq_44).1).1) (bNot_4 (fld_4 bAnd_44 (o_nv o bEq_44).2).1)
theorem pk_cp {is : Int → Bool} : Pk [cpB is l s m t] false [cpB is l' s m' t] false := pk_1 (cp_mn o) (cpB_4 _ _ _ _) (cpB_4 _ _ _ _)
theorem pk_sh {dir : Int} {fr : List Int → Bool → Int} (h1 : V4 (fr l s)) (h2 : V4 (fr l' s)) (h3 : blwF (fr l s) (fr l' s) = true) : Pk (shL dir fr l s m) (nS l s) (shL dir fr l' s m') (nS l' s) :=
  pk_mk (sh_mn o h2 h3) (by rw [nS_id o.nl, nS_id o.nl']) (shL_v4 o.nl h1).2 (shL_v4 o.nl' h2).2 (by rw [(shL_v4 o.nl h1).1]; have := o.nl.len; omega)
theorem pk_sh0 {dir : Int} : Pk (shL dir (fun _ _ => 0) l s m) (nS l s) (shL dir (fun _ _ => 0) l' s m') (nS l' s) := pk_sh o v4_0 v4_0 (blwF_refl _)
theorem pk_sht : Pk (shL 1 top l s m) (nS l s) (shL 1 top l' s m') (nS l' s) := pk_sh o (top_4 o.nl s) (top_4 o.nl' s) (top_mn o.nl o.nl' o.rl s)
theorem pk_log {f : Int → Int → Int} (hf : Mn2 f) (h4 : ∀ x y, V4 x → V4 y → V4 (f x y)) : Pk [f (fld bOr (nB l)) (fld bOr (nB m))] false [f (fld bOr (nB l')) (fld bOr (nB m'))] false := by
  rw [nB_id o.nl, nB_id o.nl', nB_id o.nm, nB_id o.nm']
  have a := fld_4 bOr_44 o.nl
  have b := fld_4 bOr_44 o.nl'
  have c := fld_4 bOr_44 o.nm
  have d := fld_4 bOr_44 o.nm'
  exact pk_1 (hf _ _ _ _ a b c d (truth_mn o.nl o.nl' o.rl) (truth_mn o.nm o.nm' o.rm)) (h4 _ _ a c) (h4 _ _ b d)
end
section
variable {l l' : List Int} {s : Bool} (nl : NV l) (nl' : NV l') (rl : Rf l l')
include nl nl' rl
theorem pk_not : Pk ((nB l).map bNot) (nS l s) ((nB l').map bNot) (nS l' s) := by
  rw [nB_id nl, nB_id nl', nS_id nl, nS_id nl']
  refine pk_mk ((rl.rb nl nl').map nl nl') rfl (fun x hx => ?_) (fun x hx => ?_) (by simp; have := nl.len; omega)
  · obtain ⟨y, hy, rfl⟩ := List.mem_map.1 hx; exact bNot_4 (nl.v y hy).1
  · obtain ⟨y, hy, rfl⟩ := List.mem_map.1 hx; exact bNot_4 (nl'.v y hy).1
theorem pk_neg : Pk (negL l s) (bg (List.replicate (nB l).length 0) (nS l s) (nB l) (nS l s)) (negL l' s) (bg (List.replicate (nB l').length 0) (nS l' s) (nB l') (nS l' s)) := by
  rw [nB_id nl, nB_id nl', nS_id nl, nS_id nl', neg_sg nl, neg_sg nl']
  refine pk_mk ?_ rfl (negL_v4 nl).2 (negL_v4 nl').2 (by rw [(negL_v4 nl).1]; have := nl.len; omega)
  unfold negL toL
  rw [nB_id nl, nB_id nl', nS_id nl, nS_id nl', ← rl.1]
  have hz : NV (List.replicate l.length (0 : Int)) := nv_rep (List.length_pos_iff.2 nl.ne) nl.len v4_0
  exact ar_mn (fun x y g h => ofN_len _ _) ⟨hz, hz, nl, nl', Rf.refl _, rl⟩
theorem pk_red {f : Int → Int → Int} (hf : Mn2 f) (h4 : ∀ x y, V4 x → V4 y → V4 (f x y)) : Pk [fld f (nB l)] false [fld f (nB l')] false := by
  rw [nB_id nl, nB_id nl']
  exact pk_1 ((rl.rb nl nl').fld hf h4 nl nl') (fld_4 h4 nl) (fld_4 h4 nl')
theorem pk_nred {f : Int → Int → Int} (hf : Mn2 f) (h4 : ∀ x y, V4 x → V4 y → V4 (f x y)) : Pk [bNot (fld f (nB l))] false [bNot (fld f (nB l'))] false := by
  rw [nB_id nl, nB_id nl']
  exact pk_1 (mnNot (fld_4 h4 nl) (fld_4 h4 nl') ((rl.rb nl nl').fld hf h4 nl nl')) (bNot_4 (fld_4 h4 nl).1) (bNot_4 (fld_4 h4 nl').1)
end
end Go.Proofs.YtdgbdkfoeaollaaGreatDoor.V
