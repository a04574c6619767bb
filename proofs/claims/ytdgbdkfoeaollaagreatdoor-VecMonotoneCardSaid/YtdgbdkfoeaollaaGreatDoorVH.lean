/- Equality, matching, logic and selection. -/
import Derived.Test.YtdgbdkfoeaollaaGreatDoorVG
set_option linter.unusedSimpArgs false
set_option linter.unusedVariables false
set_option linter.unusedSectionVars false
namespace Go.Proofs.YtdgbdkfoeaollaaGreatDoor.V
open Go Go.AL Go.SX
theorem byt_nv {l : List Int} (h : NV l) : Byt l := fun x hx => (h.v x hx).1
theorem bX_id {X Y : List Int} {g : Bool} (hX : NV X) (hY : NV Y) (h : X.length = Y.length) : bX X g Y g = X ∧ bY X g Y g = Y ∧ bg X g Y g = g := by
  have hg : bg X g Y g = g := by unfold bg; rw [nS_id hX, nS_id hY]; cases g <;> rfl
  have hw : bwd X Y = X.length := by unfold bwd; rw [nB_id hX, nB_id hY]; show max _ _ = _; omega
  refine ⟨?_, ?_, hg⟩
  · unfold bX rsz; rw [nB_id hX, hw, if_pos (Nat.le_refl _), List.take_length]
  · unfold bY rsz; rw [nB_id hY, hw, if_pos (by omega), h, List.take_length]
section
variable (l m : List Int) (s t : Bool) (hl : l.length < 2 ^ 14) (hm : m.length < 2 ^ 14) (bl : Byt l) (bm : Byt m)
include hl hm bl bm
theorem veq_ok : FvC CX TB (.f 85 [] []) [.a [.u l, .b s], .a [.u m, .b t]] [] (RV1 (eqB l s m t) false) := by
  have nv : NV (bwF bEq l s m t) := zipW_nv (bX_nv bl bm) (bY_nv bl bm) (by rw [bX_len, bY_len]) bEq_44
  refine fn_ok rfl rfl fun B D G hG q hq => ?_
  cbv
  refine call hG [] (vXnor_ok l m s t hl hm bl bm) ⟨rfl, rfl, rfl⟩ ?_
  rintro _ _ ⟨L, g, rfl, rfl, hL, hg⟩
  cbv
  rw [← hL] at nv
  refine call hG [] (redAnd_ok L g (by have := nv.len; omega) (byt_nv nv)) ⟨rfl, rfl, rfl⟩ ?_
  rintro _ _ ⟨M, h, rfl, rfl, hM, hh⟩
  cbv
  exact hq _ _ ⟨_, _, rfl, rfl, by rw [hM, nB_id nv, hL]; rfl, hh⟩
theorem eqB_4 : V4 (eqB l s m t) := fld_4 bAnd_44 (zipW_nv (bX_nv bl bm) (bY_nv bl bm) (by rw [bX_len, bY_len]) bEq_44)
theorem vne_ok : FvC CX TB (.f 54 [] []) [.a [.u l, .b s], .a [.u m, .b t]] [] (RV1 (bNot (eqB l s m t)) false) := by
  have h4 := eqB_4 l m s t hl hm bl bm
  refine fn_ok rfl rfl fun B D G hG q hq => ?_
  cbv
  refine call hG [] (veq_ok l m s t hl hm bl bm) ⟨rfl, rfl, rfl⟩ ?_
  rintro _ _ ⟨L, g, rfl, rfl, hL, hg⟩
  cbv
  rw [← hL] at h4
  refine call hG [] (vnot1_ok L g h4) ⟨rfl, rfl, rfl⟩ ?_
  rintro _ _ ⟨M, h, rfl, rfl, hM, hh⟩
  cbv
  exact hq _ _ ⟨_, _, rfl, rfl, by rw [hM, hL], by rw [hh, hg]⟩
omit hl hm bl bm in
theorem cond1_ok (x y : Int) (hx : V4 x) (hy : V4 y) : FvC CX TB (.f 100 [] []) [.i .u8 x, .i .u8 y] [] (RI .u8 (bMux 2 x y)) := by
  refine fn_ok rfl rfl fun B D G hG q hq => ?_
  cbv
  refine call hG [] (bMux_ok (.ofNat 2) x y hx.1 hy.1) ⟨rfl, rfl, rfl⟩ ?_
  rintro _ _ ⟨c, rfl, rfl, hc⟩
  cbv
  exact hq _ _ ⟨_, rfl, rfl, hc⟩
omit hl hm bl bm in
theorem bMux_44 (x y : Int) (hx : V4 x) (hy : V4 y) : V4 (bMux 2 x y) := by
  rcases hx.cases with rfl | rfl | rfl | rfl <;> rcases hy.cases with rfl | rfl | rfl | rfl <;> constructor <;> decide
def condL (e l : List Int) (s : Bool) (m : List Int) (t : Bool) : List Int :=
  if fld bOr (nB e) = 1 then bX l s m t else if fld bOr (nB e) = 0 then bY l s m t else zipW (bMux 2) (bX l s m t) (bY l s m t)
theorem vcond_ok (e : List Int) (r : Bool) (he : e.length < 2 ^ 14) (be : Byt e) : FvC CX TB (.f 18 [] []) [.a [.u e, .b r], .a [.u l, .b s], .a [.u m, .b t]] [] (RV (condL e l s m t) (bg l s m t)) := by
  have nX := bX_nv (s := s) (t := t) bl bm
  have nY := bY_nv (s := s) (t := t) bl bm
  have hXY : (bX l s m t).length = (bY l s m t).length := by rw [bX_len, bY_len]
  refine fn_ok rfl rfl fun B D G hG q hq => ?_
  cbv
  refine call hG [] (balance_ok l m s t hl hm) ⟨rfl, rfl, rfl⟩ ?_
  rintro _ _ ⟨X, Y, g, h, rfl, rfl, hX, hY, hg, hh⟩
  cbv
  rw [← hX] at nX
  rw [← hY] at nY
  rw [← hX, ← hY] at hXY
  refine call hG [] (truth_ok e r (by omega) be) ⟨rfl, rfl, rfl⟩ ?_
  rintro _ _ ⟨c, rfl, rfl, hc⟩
  cbv
  refine SX.ite hG (fun h1 => ?_) (fun h1 => ?_)
  · have h1 : c = 1 := by rw [hG] at h1; exact eq_of_beq h1
    exact hq _ _ ⟨_, _, rfl, rfl, by rw [condL, if_pos (by rw [← hc]; exact h1), hX], hg⟩
  have h1 : ¬ c = 1 := by rw [hG] at h1; exact ne_of_beq_false h1
  refine SX.ite hG (fun h2 => ?_) (fun h2 => ?_)
  · have h2 : c = 0 := by rw [hG] at h2; exact eq_of_beq h2
    exact hq _ _ ⟨_, _, rfl, rfl, by rw [condL, if_neg (by rw [← hc]; exact h1), if_pos (by rw [← hc]; exact h2), hY], hh⟩
  have h2 : ¬ c = 0 := by rw [hG] at h2; exact ne_of_beq_false h2
  have hgh : h = g := by rw [hg, hh]
  subst hgh
  obtain ⟨i1, i2, i3⟩ := bX_id (g := h) nX nY hXY
  refine call hG [] (bitwise_ok X Y h h (by have := nX.len; omega) (by have := nY.len; omega) (byt_nv nX) (byt_nv nY) 100 [] [] (bMux 2) bMux_44 (fun x y hx hy => fq_ok (cond1_ok x y hx hy))) ⟨rfl, rfl, rfl⟩ ?_
  rintro _ _ ⟨L, k, rfl, rfl, hL, hk⟩
  cbv
  exact hq _ _ ⟨_, _, rfl, rfl, by rw [condL, if_neg (by rw [← hc]; exact h1), if_neg (by rw [← hc]; exact h2), hL, i1, i2, hX, hY], by rw [hk, i3, hg]⟩
end
theorem lnot_ok (l : List Int) (s : Bool) (hl : l.length < 2 ^ 15) (hb : Byt l) : FvC CX TB (.f 46 [] []) [.a [.u l, .b s]] [] (RV1 (bNot (fld bOr (nB l))) false) := by
  have h4 := fld_4 bOr_44 (nB_nv hb)
  refine fn_ok rfl rfl fun B D G hG q hq => ?_
  cbv
  refine call hG [] (truth_ok l s hl hb) ⟨rfl, rfl, rfl⟩ ?_
  rintro _ _ ⟨c, rfl, rfl, hc⟩
  cbv
  refine call hG [] (bNot_ok c (by rw [hc]; exact h4.1)) ⟨rfl, rfl, rfl⟩ ?_
  rintro _ _ ⟨d, rfl, rfl, hd⟩
  cbv
  refine call hG [] (single_ok d) ⟨rfl, rfl, rfl⟩ ?_
  rintro _ _ ⟨M, k, rfl, rfl, hM, hk⟩
  cbv
  exact hq _ _ ⟨_, _, rfl, rfl, by rw [hM, hd, hc], hk⟩
theorem land_ok (l m : List Int) (s t : Bool) (hl : l.length < 2 ^ 15) (hm : m.length < 2 ^ 15) (bl : Byt l) (bm : Byt m) : FvC CX TB (.f 47 [] []) [.a [.u l, .b s], .a [.u m, .b t]] [] (RV1 (bAnd (fld bOr (nB l)) (fld bOr (nB m))) false) := by
  have h4 := fld_4 bOr_44 (nB_nv bl)
  have h5 := fld_4 bOr_44 (nB_nv bm)
  refine fn_ok rfl rfl fun B D G hG q hq => ?_
  cbv
  refine call hG [] (truth_ok l s hl bl) ⟨rfl, rfl, rfl⟩ ?_
  rintro _ _ ⟨c, rfl, rfl, hc⟩
  cbv
  refine call hG [] (truth_ok m t hm bm) ⟨rfl, rfl, rfl⟩ ?_
  rintro _ _ ⟨d, rfl, rfl, hd⟩
  cbv
  refine call hG [] (bAnd_ok c d (by rw [hc]; exact h4.1) (by rw [hd]; exact h5.1)) ⟨rfl, rfl, rfl⟩ ?_
  rintro _ _ ⟨e, rfl, rfl, he⟩
  cbv
  refine call hG [] (single_ok e) ⟨rfl, rfl, rfl⟩ ?_
  rintro _ _ ⟨M, k, rfl, rfl, hM, hk⟩
  cbv
  refine okd hG rfl (hq _ _ ⟨_, _, rfl, rfl, by rw [hM, he, hd, hc], hk⟩)
theorem lor_ok (l m : List Int) (s t : Bool) (hl : l.length < 2 ^ 15) (hm : m.length < 2 ^ 15) (bl : Byt l) (bm : Byt m) : FvC CX TB (.f 48 [] []) [.a [.u l, .b s], .a [.u m, .b t]] [] (RV1 (bOr (fld bOr (nB l)) (fld bOr (nB m))) false) := by
  have h4 := fld_4 bOr_44 (nB_nv bl)
  have h5 := fld_4 bOr_44 (nB_nv bm)
  refine fn_ok rfl rfl fun B D G hG q hq => ?_
  cbv
  refine call hG [] (truth_ok l s hl bl) ⟨rfl, rfl, rfl⟩ ?_
  rintro _ _ ⟨c, rfl, rfl, hc⟩
  cbv
  refine call hG [] (truth_ok m t hm bm) ⟨rfl, rfl, rfl⟩ ?_
  rintro _ _ ⟨d, rfl, rfl, hd⟩
  cbv
  refine call hG [] (bOr_ok c d (by rw [hc]; exact h4.1) (by rw [hd]; exact h5.1)) ⟨rfl, rfl, rfl⟩ ?_
  rintro _ _ ⟨e, rfl, rfl, he⟩
  cbv
  refine call hG [] (single_ok e) ⟨rfl, rfl, rfl⟩ ?_
  rintro _ _ ⟨M, k, rfl, rfl, hM, hk⟩
  cbv
  refine okd hG rfl (hq _ _ ⟨_, _, rfl, rfl, by rw [hM, he, hd, hc], hk⟩)
end Go.Proofs.YtdgbdkfoeaollaaGreatDoor.V
