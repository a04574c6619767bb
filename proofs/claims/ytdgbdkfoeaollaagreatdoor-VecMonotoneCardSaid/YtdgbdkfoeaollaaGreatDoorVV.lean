/- Plain laws: refining the operands refines the parts. -/
import Derived.Test.YtdgbdkfoeaollaaGreatDoorVU
import Derived.Test.YtdgbdkfoeaollaaGreatDoorVS
import Derived.Test.YtdgbdkfoeaollaaGreatDoorVP
set_option linter.unusedSimpArgs false
set_option linter.unusedVariables false
namespace Go.Proofs.YtdgbdkfoeaollaaGreatDoor.V
open Go Go.AL Go.SX
/-- Bit by bit, m refines l. -/
def Rf (l m : List Int) : Prop := l.length = m.length ∧ ∀ i : Nat, i < l.length → bLeq (gu l i) (gu m i) = true
theorem bLeq_refl (x : Int) : bLeq x x = true := by unfold bLeq bSame; simp
theorem bLeq_blw {x y : Int} (hx : V4 x) (hy : V4 y) (h : bLeq x y = true) : blwF x y = true := by
  rcases hx.cases with rfl | rfl | rfl | rfl <;> rcases hy.cases with rfl | rfl | rfl | rfl <;> revert h <;> decide
theorem Rf.refl (l : List Int) : Rf l l := ⟨rfl, fun i _ => bLeq_refl _⟩
theorem Rf.blw {l m : List Int} (h : Rf l m) (hl : NV l) (hm : NV m) (s : Bool) : blw l s m s = true := by
  unfold V.blw
  rw [beq_self_eq_true, Bool.true_and]
  exact (eqF_iff h.1).2 fun i hi => bLeq_blw (hl.v _ (gu_mem hi)) (hm.v _ (gu_mem (by rw [← h.1]; exact hi))) (h.2 i hi)
theorem gu_rsz {l : List Int} {s : Bool} {w i : Nat} (h : i < w) : gu (rsz l s w) i = if i < l.length then gu l i else top l s := by
  unfold rsz
  split
  · rw [gu_take h, if_pos (by omega)]
  · rw [gu_app]
    split
    · rfl
    · rename_i h2
      unfold gu
      rw [Int.toNat_natCast, List.getElem?_replicate, if_pos (by omega)]; rfl
theorem Rf.top {l m : List Int} (h : Rf l m) (hl : l ≠ []) (s : Bool) : bLeq (top l s) (top m s) = true := by
  unfold V.top
  split
  · rw [← h.1]; exact h.2 _ (by have := List.length_pos_iff.2 hl; omega)
  · exact bLeq_refl _
theorem Rf.rsz {l m : List Int} (h : Rf l m) (hl : l ≠ []) (s : Bool) (w : Nat) : Rf (rsz l s w) (rsz m s w) := by
  refine ⟨by rw [rsz_len, rsz_len], fun i hi => ?_⟩
  rw [rsz_len] at hi
  rw [gu_rsz hi, gu_rsz hi, ← h.1]
  split
  · exact h.2 i (by assumption)
  · exact h.top hl s
theorem Rf.app {l m l' m' : List Int} (h : Rf l m) (h' : Rf l' m') : Rf (l ++ l') (m ++ m') := by
  refine ⟨by rw [List.length_append, List.length_append, h.1, h'.1], fun i hi => ?_⟩
  rw [List.length_append] at hi
  rw [gu_app, gu_app, ← h.1]
  split
  · exact h.2 i (by assumption)
  · exact h'.2 _ (by omega)
theorem Rf.repL {l m : List Int} (h : Rf l m) (hl : l ≠ []) (n : Nat) : Rf (repL l n) (repL m n) := by
  refine ⟨by rw [repL_len, repL_len, h.1], fun i hi => ?_⟩
  rw [repL_len] at hi
  rw [repL_get hi, repL_get (by rw [← h.1]; exact hi), ← h.1]
  exact h.2 _ (Nat.mod_lt _ (List.length_pos_iff.2 hl))
theorem rfn_out {m : List Int} {t : Bool} {l : List Int} {s : Bool} (bl : Byt l) (bm : Byt m) (h : rfn m t l s = true) : NV l ∧ NV m ∧ s = t ∧ Rf l m := by
  unfold rfn at h
  simp only [Bool.and_eq_true, decide_eq_true_eq] at h
  obtain ⟨⟨h1, h2⟩, h3⟩ := h
  have nl : NV l := by have := nB_nv bl; rwa [nB, if_pos h1] at this
  have nm : NV m := by have := nB_nv bm; rwa [nB, if_pos h2] at this
  unfold leqV at h3
  rw [nB_id nl, nB_id nm, nS_id nl, nS_id nm] at h3
  simp only [Bool.and_eq_true, beq_iff_eq] at h3
  refine ⟨nl, nm, h3.1, ?_⟩
  have h4 : l.length = m.length := by
    have := h3.2
    unfold eqF at this
    simp only [Bool.and_eq_true, decide_eq_true_eq] at this
    exact this.1
  exact ⟨h4, (eqF_iff h4).1 h3.2⟩
end Go.Proofs.YtdgbdkfoeaollaaGreatDoor.V
