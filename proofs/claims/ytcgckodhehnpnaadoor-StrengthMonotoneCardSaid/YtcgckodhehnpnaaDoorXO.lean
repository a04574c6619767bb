/- The laws' world: what awake answers is told from without; the plain laws of intervals. -/
import Derived.Test.YtcgckodhehnpnaaDoorXN
import Derived.Test.YtcgckodhehnpnaaDoorXT
set_option linter.unusedSimpArgs false
set_option linter.unusedVariables false
namespace Go.Proofs.YtcgckodhehnpnaaDoor.X
open Go Go.AL
def ext0 : Nat → Option (List Value → AH → Option (Value × AH)) := fun f => if f = 17 then some (closedCall IR.ft 1 1000 17) else none
theorem ext0_ok : Ext0 ext0 := fun f hf => if_neg hf
/-- The table of names lies in block 0. -/
def b0 : Blk := (tabRow 0 (strs namesL)).blk
def Gl (H : AH) : Prop := 0 < H.n ∧ H.t.get 0 = some b0
theorem Gl.ext {H H' : AH} (h : Gl H) (he : AL.Ext H H') : Gl H' := ⟨Nat.lt_of_lt_of_le h.1 he.n, by rw [he.get _ h.1]; exact h.2⟩
theorem gl_tabs : Gl (rowH tabs) := ⟨by decide, by rw [rowH_get]; rfl⟩
theorem globH_eq {H : AH} (h : Gl H) : globH H 1 = globH (rowH tabs) 1 := by
  unfold globH globsOf
  rw [h.2, gl_tabs.2]
  rfl
theorem globOk_eq {H : AH} (h : Gl H) : globOk H 1 = globOk (rowH tabs) 1 := by
  unfold globOk
  rw [h.2, gl_tabs.2]
  rfl
theorem ok_tabs : globOk (rowH tabs) 1 = true := by kernel_rfl
theorem awake_run : isTrue (evF IR.ft noExt 1000 17 [] (globH (rowH tabs) 1)) = true := by kernel_rfl
theorem awake_any {H : AH} (hG : Gl H) : Run (Cx ext0) 17 [] H fun r H' => H' = H ∧ r = .bool true := by
  obtain ⟨H1, h⟩ := isTrue_some awake_run
  refine Run.ext (g := closedCall IR.ft 1 1000 17) rfl (v := .bool true) (H' := H) ?_ ⟨rfl, rfl⟩
  unfold closedCall
  simp only [globOk_eq hG, ok_tabs, globH_eq hG, cond_true, h]
  rfl
theorem ext0_sim : ∀ f g, ext0 f = some g → SimG Tryd.prog f g := by
  intro f g hg
  unfold ext0 at hg
  split at hg
  · rename_i hf
    subst hf
    obtain rfl := Option.some.inj hg
    have := closed_sim IR.mixed IR.ft_ok 1000 17
    rw [one] at this
    exact this
  · cases hg
theorem law2 {W : World} (hG : Glob W) {f : Nat} {args cargs : List Value} (hargs : VRs (rowβ tabs) args cargs) (h : Run (Cx ext0) f args (rowH tabs) fun r _ => r = .bool true) :
    Calls Tryd.prog f ⟨cargs⟩ W fun e W' => e = .returned (.bool true) ∧ Go.RowKit.Below W.heap.size W W' :=
  law_callsG (C := Cx ext0) IR.mixed IR.ft_ok ext0_sim (by rw [one]; decide) tabs_β (tabs_at hG) hargs h
/-! ## The plain laws -/
theorem eqv {x y : Int × Int} (h : x = y) : (x.1 == y.1 && (x.2 == y.2 && true)) = true := by subst h; simp
theorem cb1 (x : Int × Int) : cb [x] = (nl x.1 x.2, nh x.1 x.2) := by simp [cb, ad, lo_zero, hi_zero]
theorem cb2 (x y : Int × Int) : cb [x, y] = (lo (nl x.1 x.2) (nl y.1 y.2), hi (nh x.1 x.2) (nh y.1 y.2)) := by simp [cb, ad, lo_zero, hi_zero]
theorem cb3 (x y z : Int × Int) : cb [x, y, z] = (lo (lo (nl x.1 x.2) (nl y.1 y.2)) (nl z.1 z.2), hi (hi (nh x.1 x.2) (nh y.1 y.2)) (nh z.1 z.2)) := by simp [cb, ad, lo_zero, hi_zero]
theorem nl_cb (l : List (Int × Int)) : nl (cb l).1 (cb l).2 = (cb l).1 := nl_id (cb_vd l).1 (cb_vd l).2.1 (cb_vd l).2.2
theorem nh_cb (l : List (Int × Int)) : nh (cb l).1 (cb l).2 = (cb l).2 := nh_id (cb_vd l).1 (cb_vd l).2.1 (cb_vd l).2.2
theorem alg1 (x y : Int × Int) : cb [x, y] = cb [y, x] := by rw [cb2, cb2, lo_comm, hi_comm]
theorem alg2 (x y z : Int × Int) : cb [z, x, y] = cb [x, y, z] := by rw [cb3, cb3, lo_assoc, hi_assoc, lo_comm, hi_comm]
theorem alg3 (x y z : Int × Int) : cb [((cb [x, y]).1, (cb [x, y]).2), z] = cb [x, y, z] := by
  rw [cb2 _ z, cb3]
  show (lo (nl (cb [x, y]).1 (cb [x, y]).2) _, hi (nh (cb [x, y]).1 (cb [x, y]).2) _) = _
  rw [nl_cb, nh_cb, cb2]
theorem alg4 (x y z : Int × Int) : cb [x, ((cb [y, z]).1, (cb [y, z]).2)] = cb [x, y, z] := by
  rw [cb2 x, cb3]
  show (lo _ (nl (cb [y, z]).1 (cb [y, z]).2), hi _ (nh (cb [y, z]).1 (cb [y, z]).2)) = _
  rw [nl_cb, nh_cb, cb2, lo_assoc, hi_assoc]
theorem alg5 (x : Int × Int) : cb [x, (0, 0)] = (nl x.1 x.2, nh x.1 x.2) := by
  rw [cb2, show nl (0, 0).1 (0, 0).2 = 0 from rfl, show nh (0, 0).1 (0, 0).2 = 0 from rfl, lo_comm, hi_comm, lo_zero, hi_zero]
theorem norm_vd (a b : Int) : Vd (nl a b, nh a b) := ⟨nl_lv a b, nh_lv a b, nl_nh a b⟩
theorem mono_comb {a0 a1 b0 b1 c0 c1 d0 d1 : Int} (h1 : (decide (nl c0 c1 ≥ nl a0 a1) && decide (nh c0 c1 ≤ nh a0 a1)) = true) (h2 : (decide (nl d0 d1 ≥ nl b0 b1) && decide (nh d0 d1 ≤ nh b0 b1)) = true) :
    (decide ((cb [(nl c0 c1, nh c0 c1), (nl d0 d1, nh d0 d1)]).1 ≥ (cb [(nl a0 a1, nh a0 a1), (nl b0 b1, nh b0 b1)]).1) && decide ((cb [(nl c0 c1, nh c0 c1), (nl d0 d1, nh d0 d1)]).2 ≤ (cb [(nl a0 a1, nh a0 a1), (nl b0 b1, nh b0 b1)]).2)) = true := by
  simp only [Bool.and_eq_true, decide_eq_true_eq] at h1 h2 ⊢
  have i : ∀ a b, nl (nl a b) (nh a b) = nl a b := fun a b => nl_id (nl_lv a b) (nh_lv a b) (nl_nh a b)
  have j : ∀ a b, nh (nl a b) (nh a b) = nh a b := fun a b => nh_id (nl_lv a b) (nh_lv a b) (nl_nh a b)
  rw [cb2, cb2]
  simp only [i, j]
  exact ⟨lo_mono h1.1 h2.1, hi_mono h1.2 h2.2⟩
theorem rdv_le (a b : Int) : rdv a b ≤ 3 := by unfold rdv; repeat' split
                                               all_goals omega
theorem read_mono {a0 a1 c0 c1 : Int} (h1 : (decide (nl c0 c1 ≥ nl a0 a1) && decide (nh c0 c1 ≤ nh a0 a1)) = true) (hz : (nl c0 c1 == 0 && (nh c0 c1 == 0 && true)) = false) :
    ((rdv (nl a0 a1) (nh a0 a1) == rdv (nl c0 c1) (nh c0 c1)) || (!decide (rdv (nl a0 a1) (nh a0 a1) ≤ 1) && decide (rdv (nl c0 c1) (nh c0 c1) ≤ 1))) = true := by
  simp only [Bool.and_eq_true, decide_eq_true_eq] at h1
  have i : ∀ a b, nl (nl a b) (nh a b) = nl a b := fun a b => nl_id (nl_lv a b) (nh_lv a b) (nl_nh a b)
  have j : ∀ a b, nh (nl a b) (nh a b) = nh a b := fun a b => nh_id (nl_lv a b) (nh_lv a b) (nl_nh a b)
  have hz2 : nl c0 c1 = 0 → ¬ nh c0 c1 = 0 := by simpa using hz
  have k1 := nl_nh a0 a1
  have k2 := nl_nh c0 c1
  unfold rdv
  simp only [i, j]
  generalize nl a0 a1 = p at *
  generalize nh a0 a1 = q at *
  generalize nl c0 c1 = r at *
  generalize nh c0 c1 = t at *
  by_cases e1 : p = 0 ∧ q = 0
  · exact absurd (show t = 0 by omega) (hz2 (by omega))
  rw [if_neg e1, if_neg (fun h : r = 0 ∧ t = 0 => hz2 h.1 h.2)]
  by_cases e2 : p > 0
  · rw [if_pos e2, if_pos (show r > 0 by omega)]; rfl
  rw [if_neg e2]
  by_cases e3 : q < 0
  · rw [if_pos e3, if_neg (show ¬ r > 0 by omega), if_pos (show t < 0 by omega)]; rfl
  rw [if_neg e3]
  by_cases e4 : r > 0
  · rw [if_pos e4]; rfl
  rw [if_neg e4]
  by_cases e5 : t < 0
  · rw [if_pos e5]; rfl
  · rw [if_neg e5]; rfl
end Go.Proofs.YtcgckodhehnpnaaDoor.X
