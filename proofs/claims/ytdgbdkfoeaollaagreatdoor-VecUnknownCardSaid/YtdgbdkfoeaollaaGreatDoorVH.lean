/- Equality, matching, logic and selection. -/
import Derived.Test.YtdgbdkfoeaollaaGreatDoorVG
set_option linter.unusedSimpArgs false
set_option linter.unusedVariables false
set_option linter.unusedSectionVars false
namespace Go.Proofs.YtdgbdkfoeaollaaGreatDoor.V
open Go Go.AL Go.SX
theorem byt_nv {l : List Int} (h : NV l) : Byt l := fun x hx => (h.v x hx).1
theorem bX_id {X Y : List Int} {g : Bool} (hX : NV X) (hY : NV Y) (h : X.length = Y.length) : bX X g Y g = X ∧ bY X g Y g = Y ∧ bg X g Y g = g := by
  have hg : bg X g Y g = g := by unfold bg; rw [nS_id hX, nS_id hY]; cases g <;> rfl
  have hw : bwd X Y = X.length := by unfold bwd; rw [nB_id hX, nB_id hY]; show max _ _ = _; omega
  refine ⟨?_, ?_, hg⟩
  · unfold bX rsz; rw [nB_id hX, hw, if_pos (Nat.le_refl _), List.take_length]
  · unfold bY rsz; rw [nB_id hY, hw, if_pos (by omega), h, List.take_length]
section
variable (l m : List Int) (s t : Bool) (hl : l.length < 2 ^ 14) (hm : m.length < 2 ^ 14) (bl : Byt l) (bm : Byt m)
include hl hm bl bm
omit hl hm bl bm in
theorem cond1_ok (x y : Int) (hx : V4 x) (hy : V4 y) : FvC CX TB (.f 100 [] []) [.i .u8 x, .i .u8 y] [] (RI .u8 (bMux 2 x y)) := by
  refine fn_ok rfl rfl fun B D G hG q hq => ?_
  cbv
  refine call hG [] (bMux_ok (.ofNat 2) x y hx.1 hy.1) ⟨rfl, rfl, rfl⟩ ?_
  rintro _ _ ⟨c, rfl, rfl, hc⟩
  cbv
  exact hq _ _ ⟨_, rfl, rfl, hc⟩
omit hl hm bl bm in
theorem bMux_44 (x y : Int) (hx : V4 x) (hy : V4 y) : V4 (bMux 2 x y) := by
  rcases hx.cases with rfl | rfl | rfl | rfl <;> rcases hy.cases with rfl | rfl | rfl | rfl <;> constructor <;> decide
def condL (e l : List Int) (s : Bool) (m : List Int) (t : Bool) : List Int :=
  if fld bOr (nB e) = 1 then bX l s m t else if fld bOr (nB e) = 0 then bY l s m t else zipW (bMux 2) (bX l s m t) (bY l s m t)
theorem vcond_ok (e : List Int) (r : Bool) (he : e.length < 2 ^ 14) (be : Byt e) : FvC CX TB (.f 18 [] []) [.a [.u e, .b r], .a [.u l, .b s], .a [.u m, .b t]] [] (RV (condL e l s m t) (bg l s m t)) := by
  have nX := bX_nv (s := s) (t := t) bl bm
  have nY := bY_nv (s := s) (t := t) bl bm
  have hXY : (bX l s m t).length = (bY l s m t).length := by rw [bX_len, bY_len]
  refine fn_ok rfl rfl fun B D G hG q hq => ?_
  cbv
  refine call hG [] (balance_ok l m s t hl hm) ⟨rfl, rfl, rfl⟩ ?_
  rintro _ _ ⟨X, Y, g, h, rfl, rfl, hX, hY, hg, hh⟩
  cbv
  rw [← hX] at nX
  rw [← hY] at nY
  rw [← hX, ← hY] at hXY
  refine call hG [] (truth_ok e r (by omega) be) ⟨rfl, rfl, rfl⟩ ?_
  rintro _ _ ⟨c, rfl, rfl, hc⟩
  cbv
  refine SX.ite hG (fun h1 => ?_) (fun h1 => ?_)
  · have h1 : c = 1 := by rw [hG] at h1; exact eq_of_beq h1
    exact hq _ _ ⟨_, _, rfl, rfl, by rw [condL, if_pos (by rw [← hc]; exact h1), hX], hg⟩
  have h1 : ¬ c = 1 := by rw [hG] at h1; exact ne_of_beq_false h1
  refine SX.ite hG (fun h2 => ?_) (fun h2 => ?_)
  · have h2 : c = 0 := by rw [hG] at h2; exact eq_of_beq h2
    exact hq _ _ ⟨_, _, rfl, rfl, by rw [condL, if_neg (by rw [← hc]; exact h1), if_pos (by rw [← hc]; exact h2), hY], hh⟩
  have h2 : ¬ c = 0 := by rw [hG] at h2; exact ne_of_beq_false h2
  have hgh : h = g := by rw [hg, hh]
  subst hgh
  obtain ⟨i1, i2, i3⟩ := bX_id (g := h) nX nY hXY
  refine call hG [] (bitwise_ok X Y h h (by have := nX.len; omega) (by have := nY.len; omega) (byt_nv nX) (byt_nv nY) 100 [] [] (bMux 2) bMux_44 (fun x y hx hy => fq_ok (cond1_ok x y hx hy))) ⟨rfl, rfl, rfl⟩ ?_
  rintro _ _ ⟨L, k, rfl, rfl, hL, hk⟩
  cbv
  exact hq _ _ ⟨_, _, rfl, rfl, by rw [condL, if_neg (by rw [← hc]; exact h1), if_neg (by rw [← hc]; exact h2), hL, i1, i2, hX, hY], by rw [hk, i3, hg]⟩
end
end Go.Proofs.YtdgbdkfoeaollaaGreatDoor.V
