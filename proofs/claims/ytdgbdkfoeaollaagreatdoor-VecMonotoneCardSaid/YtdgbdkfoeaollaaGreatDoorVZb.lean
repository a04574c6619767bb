/- Add, Sub, Mul, Div, Mod, Neg. -/
import Derived.Test.YtdgbdkfoeaollaaGreatDoorVZa
import Derived.Test.YtdgbdkfoeaollaaGreatDoorALe
set_option linter.unusedSimpArgs false
set_option linter.unusedVariables false
namespace Go.Proofs.YtdgbdkfoeaollaaGreatDoor.V
open Go Go.AL Go.SX
theorem br3 {k : Nat} {x y : List Bool} {g : Bool} {Q : SV → List SX.Obj → Prop} (h : ∀ H v w, IsB H v x → IsB H w y → Run CX k [v, w, .bool g] H (Cm H Q)) : FvC CX TB (.f k [] []) [.bl x, .bl y, .b g] [] Q :=
  br_any fun H vs hd => by
    obtain ⟨w, ws, rfl, h1, w', ws', rfl, h2, w3, ws3, rfl, rfl, rfl⟩ := hd
    exact h H w w' (rdS_isB h1) (rdS_isB h2)
theorem div1_ok (x y : List Bool) (g : Bool) (hx : x.length < 2 ^ 20) (hy : y.length < 2 ^ 20) : FvC CX TB (.f 115 [] []) [.bl x, .bl y, .b g] [] (RLB (dmQ g x y) (decide (dmE y = 0))) :=
  br3 fun H v w hv hw => by
    refine Run.intro (fi := IR.fi115) rfl (by kernel_rfl) ?_
    unfold IR.fi115
    simp only [envOf_cons, envOf_nil]
    refine Cw.seq (Cw.region ?_)
    iterate 2 (refine Ow.popM rfl ?_; simp only [S0, Nat.reduceEqDiff, Nat.reduceAdd, reduceIte, reduceCtorEq])
    refine Ow.nilM ⟨nofun, ?_⟩
    refine Cw.seq (Cw.region ?_)
    iterate 3 (refine Ow.popM rfl ?_; simp only [S0, Nat.reduceEqDiff, Nat.reduceAdd, reduceIte, reduceCtorEq])
    refine Ow.callE (R := fun r H1 => ∃ u z, r = .tuple ⟨[u, z, .bool (decide (dmE y = 0))]⟩ ∧ IsR { H with wl := H.n } H1 u (dmQ g x y) ∧ IsR { H with wl := H.n } H1 z (dmR g x y)) (k := 116) (fs := []) (cs := []) (vs := [v, w, .bool g]) rfl (by simp only [S0, Nat.reduceEqDiff, Nat.reduceAdd, reduceIte, reduceCtorEq]) (by simp only [S0, Nat.reduceEqDiff, Nat.reduceAdd, reduceIte, reduceCtorEq]) (divide_any hv.wl hw.wl hx hy) ?_
    rintro r H1 q hx1 ⟨u, z, rfl, hu, hz⟩
    iterate 7 (refine Ow.popM rfl ?_; simp only [S0, Nat.reduceEqDiff, Nat.reduceAdd, reduceIte, reduceCtorEq, List.getElem?_cons_zero, List.getElem?_cons_succ])
    refine Ow.nilM ⟨nofun, ?_⟩
    show Cw _ _ _ _ _
    refine Cw.seq (Cw.region ?_)
    iterate 4 (refine Ow.popM rfl ?_; simp only [S0, Nat.reduceEqDiff, Nat.reduceAdd, reduceIte, reduceCtorEq])
    refine Ow.nilM ⟨nofun, ?_⟩
    refine Cw.ret ?_
    simp only [Then, InBlock, Rnd, FnPost, resOf, tupled, S0, Nat.reduceEqDiff, Nat.reduceAdd, reduceIte, reduceCtorEq]
    exact ⟨hx1, _, ⟨_, _, rfl, rfl, rfl, rfl⟩, _, rfl, _, _, rfl, isR_rdS hu, _, _, rfl, rfl, rfl⟩
theorem mod1_ok (x y : List Bool) (g : Bool) (hx : x.length < 2 ^ 20) (hy : y.length < 2 ^ 20) : FvC CX TB (.f 117 [] []) [.bl x, .bl y, .b g] [] (RLB (dmR g x y) (decide (dmE y = 0))) :=
  br3 fun H v w hv hw => by
    refine Run.intro (fi := IR.fi117) rfl (by kernel_rfl) ?_
    unfold IR.fi117
    simp only [envOf_cons, envOf_nil]
    refine Cw.seq (Cw.region ?_)
    iterate 2 (refine Ow.popM rfl ?_; simp only [S0, Nat.reduceEqDiff, Nat.reduceAdd, reduceIte, reduceCtorEq])
    refine Ow.nilM ⟨nofun, ?_⟩
    refine Cw.seq (Cw.region ?_)
    iterate 3 (refine Ow.popM rfl ?_; simp only [S0, Nat.reduceEqDiff, Nat.reduceAdd, reduceIte, reduceCtorEq])
    refine Ow.callE (R := fun r H1 => ∃ u z, r = .tuple ⟨[u, z, .bool (decide (dmE y = 0))]⟩ ∧ IsR { H with wl := H.n } H1 u (dmQ g x y) ∧ IsR { H with wl := H.n } H1 z (dmR g x y)) (k := 116) (fs := []) (cs := []) (vs := [v, w, .bool g]) rfl (by simp only [S0, Nat.reduceEqDiff, Nat.reduceAdd, reduceIte, reduceCtorEq]) (by simp only [S0, Nat.reduceEqDiff, Nat.reduceAdd, reduceIte, reduceCtorEq]) (divide_any hv.wl hw.wl hx hy) ?_
    rintro r H1 q hx1 ⟨u, z, rfl, hu, hz⟩
    iterate 7 (refine Ow.popM rfl ?_; simp only [S0, Nat.reduceEqDiff, Nat.reduceAdd, reduceIte, reduceCtorEq, List.getElem?_cons_zero, List.getElem?_cons_succ])
    refine Ow.nilM ⟨nofun, ?_⟩
    show Cw _ _ _ _ _
    refine Cw.seq (Cw.region ?_)
    iterate 4 (refine Ow.popM rfl ?_; simp only [S0, Nat.reduceEqDiff, Nat.reduceAdd, reduceIte, reduceCtorEq])
    refine Ow.nilM ⟨nofun, ?_⟩
    refine Cw.ret ?_
    simp only [Then, InBlock, Rnd, FnPost, resOf, tupled, S0, Nat.reduceEqDiff, Nat.reduceAdd, reduceIte, reduceCtorEq]
    exact ⟨hx1, _, ⟨_, _, rfl, rfl, rfl, rfl⟩, _, rfl, _, _, rfl, isR_rdS hz, _, _, rfl, rfl, rfl⟩
theorem dm_len {g : Bool} {x y : List Bool} (h : dmE y = 0) : (dmQ g x y).length = x.length ∧ (dmR g x y).length = x.length := by
  unfold dmE at h
  split at h
  · cases h
  · rename_i h1
    unfold dmQ dmR
    rw [if_neg h1, if_neg h1]
    cases g with
    | true => exact ⟨X.squo_length _ _, X.srem_length _ _⟩
    | false => exact ⟨ofN_len _ _, ofN_len _ _⟩
section
variable (l m : List Int) (s t : Bool) (hl : l.length < 2 ^ 14) (hm : m.length < 2 ^ 14) (bl : Byt l) (bm : Byt m)
include hl hm bl bm
/-- What a total operation leaves. -/
def toL (F : List Bool → List Bool → List Bool) (l : List Int) (s : Bool) (m : List Int) (t : Bool) : List Int := arL (fun x y _ => F x y) (fun _ _ _ => true) l s m t
theorem vadd_ok : FvC CX TB (.f 30 [] []) [.a [.u l, .b s], .a [.u m, .b t]] [] (RV (toL addF l s m t) (bg l s m t)) := by
  refine fn_ok rfl rfl fun B D G hG q hq => ?_
  cbv
  refine call hG [] (total_ok 114) ⟨rfl, rfl, rfl⟩ ?_
  rintro _ _ ⟨rfl, rfl⟩
  cbv
  refine call hG [] (arith_ok l m s t hl hm bl bm 167 [] [.p [.fq 114 [] []]] (fun x y _ => addF x y) (fun _ _ _ => true) (fun x y g h _ => by show (X.ofN _ _).length ≤ _; rw [ofN_len]; exact h) (fun x y g h1 h2 => fq_ok (total1_ok _ x y g _ (fun H v w i1 i2 => (X.add_any ext0V i1 i2 (by omega)).mono fun r H' ⟨h3, h4⟩ => ⟨h3, isM_R h4⟩)))) ⟨rfl, rfl, rfl⟩ ?_
  rintro _ _ ⟨L, h, rfl, rfl, hL, hh⟩
  cbv
  exact okd hG rfl (hq _ _ ⟨_, _, rfl, rfl, hL, hh⟩)
theorem vsub_ok : FvC CX TB (.f 80 [] []) [.a [.u l, .b s], .a [.u m, .b t]] [] (RV (toL subF l s m t) (bg l s m t)) := by
  refine fn_ok rfl rfl fun B D G hG q hq => ?_
  cbv
  refine call hG [] (total_ok 148) ⟨rfl, rfl, rfl⟩ ?_
  rintro _ _ ⟨rfl, rfl⟩
  cbv
  refine call hG [] (arith_ok l m s t hl hm bl bm 167 [] [.p [.fq 148 [] []]] (fun x y _ => subF x y) (fun _ _ _ => true) (fun x y g h _ => by show (X.ofN _ _).length ≤ _; rw [ofN_len]; exact h) (fun x y g h1 h2 => fq_ok (total1_ok _ x y g _ (fun H v w i1 i2 => (X.sub_any ext0V i1 i2 (by omega)).mono fun r H' ⟨h3, h4⟩ => ⟨h3, isM_R h4⟩)))) ⟨rfl, rfl, rfl⟩ ?_
  rintro _ _ ⟨L, h, rfl, rfl, hL, hh⟩
  cbv
  exact okd hG rfl (hq _ _ ⟨_, _, rfl, rfl, hL, hh⟩)
theorem vmul_ok : FvC CX TB (.f 81 [] []) [.a [.u l, .b s], .a [.u m, .b t]] [] (RV (toL mulF l s m t) (bg l s m t)) := by
  refine fn_ok rfl rfl fun B D G hG q hq => ?_
  cbv
  refine call hG [] (total_ok 149) ⟨rfl, rfl, rfl⟩ ?_
  rintro _ _ ⟨rfl, rfl⟩
  cbv
  refine call hG [] (arith_ok l m s t hl hm bl bm 167 [] [.p [.fq 149 [] []]] (fun x y _ => mulF x y) (fun _ _ _ => true) (fun x y g h _ => by show (X.ofN _ _).length ≤ _; rw [ofN_len]; exact h) (fun x y g h1 h2 => fq_ok (total1_ok _ x y g _ (fun H v w i1 i2 => (X.mul_any ext0V i1 i2 (by omega)).mono fun r H' ⟨h3, h4⟩ => ⟨h3, isM_R h4⟩)))) ⟨rfl, rfl, rfl⟩ ?_
  rintro _ _ ⟨L, h, rfl, rfl, hL, hh⟩
  cbv
  exact okd hG rfl (hq _ _ ⟨_, _, rfl, rfl, hL, hh⟩)
def dvO (_ y : List Bool) (_ : Bool) : Bool := decide (dmE y = 0)
def divL (l : List Int) (s : Bool) (m : List Int) (t : Bool) : List Int := arL (fun x y g => dmQ g x y) dvO l s m t
def modL (l : List Int) (s : Bool) (m : List Int) (t : Bool) : List Int := arL (fun x y g => dmR g x y) dvO l s m t
theorem vdiv_ok : FvC CX TB (.f 32 [] []) [.a [.u l, .b s], .a [.u m, .b t]] [] (RV (divL l s m t) (bg l s m t)) := by
  refine fn_ok rfl rfl fun B D G hG q hq => ?_
  cbv
  refine call hG [] (arith_ok l m s t hl hm bl bm 115 [] [] (fun x y g => dmQ g x y) dvO (fun x y g h ho => by rw [(dm_len (of_decide_eq_true ho)).1]; exact h) (fun x y g h1 h2 => fq_ok (div1_ok x y g (by omega) (by omega)))) ⟨rfl, rfl, rfl⟩ ?_
  rintro _ _ ⟨L, h, rfl, rfl, hL, hh⟩
  cbv
  exact hq _ _ ⟨_, _, rfl, rfl, hL, hh⟩
theorem vmod_ok : FvC CX TB (.f 34 [] []) [.a [.u l, .b s], .a [.u m, .b t]] [] (RV (modL l s m t) (bg l s m t)) := by
  refine fn_ok rfl rfl fun B D G hG q hq => ?_
  cbv
  refine call hG [] (arith_ok l m s t hl hm bl bm 117 [] [] (fun x y g => dmR g x y) dvO (fun x y g h ho => by rw [(dm_len (of_decide_eq_true ho)).2]; exact h) (fun x y g h1 h2 => fq_ok (mod1_ok x y g (by omega) (by omega)))) ⟨rfl, rfl, rfl⟩ ?_
  rintro _ _ ⟨L, h, rfl, rfl, hL, hh⟩
  cbv
  exact hq _ _ ⟨_, _, rfl, rfl, hL, hh⟩
end
/-- Neg. -/
def negL (l : List Int) (s : Bool) : List Int := toL subF (List.replicate (nB l).length 0) (nS l s) (nB l) (nS l s)
theorem byt_rep (n : Nat) : Byt (List.replicate n 0) := fun x hx => by rw [(List.mem_replicate.1 hx).2]; exact Int.le_refl 0
theorem vneg_ok (l : List Int) (s : Bool) (hl : l.length < 2 ^ 15) (hb : Byt l) : FvC CX TB (.f 49 [] []) [.a [.u l, .b s]] [] (RV (negL l s) (bg (List.replicate (nB l).length 0) (nS l s) (nB l) (nS l s))) := by
  have nv := nB_nv hb
  unfold negL
  refine fn_ok rfl rfl fun B D G hG q hq => ?_
  cbv
  refine call hG [] (norm_ok l s hl) ⟨rfl, rfl, rfl⟩ ?_
  rintro _ _ ⟨M, t, rfl, rfl, hM, ht⟩
  cbv
  have nvM : NV M := by rw [hM]; exact nv
  have hlen := nvM.len
  rw [← hM, ← ht] at hq
  refine call hG [] (fill_ok (.ofNat 0) (G.lu M) t (by rw [hG]; show 0 ≤ ((M.length : Nat) : Int) ∧ ((M.length : Nat) : Int) < 2 ^ 15; omega)) ⟨rfl, rfl, rfl⟩ ?_
  rintro _ _ ⟨Z, z, rfl, rfl, hZ, hz⟩
  cbv
  have eZ : Z = List.replicate M.length 0 := by rw [hZ, hG]; rfl
  refine call hG [] (vsub_ok Z M z t (by rw [eZ, List.length_replicate]; omega) (by omega) (by rw [eZ]; exact byt_rep _) (byt_nv nvM)) ⟨rfl, rfl, rfl⟩ ?_
  rintro _ _ ⟨L, h, rfl, rfl, hL, hh⟩
  cbv
  exact okd hG rfl (hq _ _ ⟨_, _, rfl, rfl, by rw [hL, eZ, hz], by rw [hh, eZ, hz]⟩)
end Go.Proofs.YtdgbdkfoeaollaaGreatDoor.V
