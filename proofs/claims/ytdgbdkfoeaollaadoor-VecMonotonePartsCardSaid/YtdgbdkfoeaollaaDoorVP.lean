/- Laws of equal and matching vectors, without a program. -/
import Derived.Test.YtdgbdkfoeaollaaDoorVH
set_option linter.unusedSimpArgs false
set_option linter.unusedVariables false
namespace Go.Proofs.YtdgbdkfoeaollaaDoor.V
open Go Go.AL Go.SX
theorem eqF_iff {p : Int → Int → Bool} {l m : List Int} (h : l.length = m.length) : eqF p l m = true ↔ ∀ i : Nat, i < l.length → p (gu l i) (gu m i) = true := by
  unfold eqF
  simp [h]
theorem eqF_refl {p : Int → Int → Bool} (hp : ∀ x, p x x = true) (l : List Int) : eqF p l l = true := (eqF_iff rfl).2 fun i _ => hp _
theorem mtc_refl (fr : Int → Bool) (x : Int) : mtc fr x x = true := by unfold mtc; simp
theorem mXY {l : List Int} {s : Bool} {m : List Int} {t : Bool} : (bX l s m t).length = (bY l s m t).length := by rw [bX_len, bY_len]
theorem mZ_T {l : List Int} {s : Bool} {m : List Int} {t : Bool} (h : bX l s m t = bY l s m t) : mZ l s m t = true := by
  unfold mZ; rw [h]; exact eqF_refl (mtc_refl _) _
theorem mX_mZ {l : List Int} {s : Bool} {m : List Int} {t : Bool} (h : mZ l s m t = true) : mX l s m t = true := by
  unfold mZ at h; unfold mX
  refine (eqF_iff mXY).2 fun i hi => ?_
  have := (eqF_iff mXY).1 h i hi
  unfold mtc at this ⊢
  simp only [Bool.or_eq_true, beq_iff_eq, Bool.not_eq_true'] at this ⊢
  rcases this with (h | h) | h
  · exact .inl (.inl h)
  · exact .inl (.inr (by rw [h]; decide))
  · exact .inr (by rw [h]; decide)
def B01 (l : List Int) : Prop := ∀ x ∈ l, x = 0 ∨ x = 1
theorem kn_01 {l : List Int} (h : NV l) (hk : kn l = true) : B01 l := fun x hx => by
  have := List.all_eq_true.1 hk x hx
  have h1 : x ≤ 1 := of_decide_eq_true this
  have h2 := (h.v x hx).1
  omega
theorem rsz_01 {l : List Int} {s : Bool} {w : Nat} (h : NV l) (hb : B01 l) : B01 (rsz l s w) := by
  intro x hx
  unfold rsz at hx
  split at hx
  · exact hb x (List.mem_of_mem_take hx)
  · rcases List.mem_append.1 hx with hx | hx
    · exact hb x hx
    · rw [(List.mem_replicate.1 hx).2]
      unfold top
      split
      · exact hb _ (gu_mem (by have := List.length_pos_iff.2 h.ne; omega))
      · exact .inl rfl
theorem gu_ext' {l m : List Int} (h : l.length = m.length) : l = m ↔ ∀ i : Nat, i < l.length → gu l i = gu m i := ⟨fun e i _ => by rw [e], gu_ext h⟩
theorem mX_T {l : List Int} {s : Bool} {m : List Int} {t : Bool} (hx : B01 (bX l s m t)) (hy : B01 (bY l s m t)) : mX l s m t = (bX l s m t == bY l s m t) := by
  rw [Bool.eq_iff_iff, beq_iff_eq, gu_ext' mXY]
  unfold mX
  rw [eqF_iff mXY]
  refine forall_congr' fun i => forall_congr' fun hi => ?_
  have h1 := hx _ (gu_mem hi)
  have h2 := hy _ (gu_mem (l := bY l s m t) (by rw [← mXY]; exact hi))
  unfold mtc
  rcases h1 with h1 | h1 <;> rcases h2 with h2 | h2 <;> rw [h1, h2] <;> decide
theorem foldA {L : List Int} (h : B01 L) : ∀ a : Int, a = 0 ∨ a = 1 → L.foldl bAnd a = ofB (a == 1 && L.all (· == 1)) := by
  induction L with
  | nil => intro a ha; rcases ha with rfl | rfl <;> decide
  | cons x L ih =>
    intro a ha
    have hx := h x (by simp)
    have hL : B01 L := fun y hy => h y (by simp [hy])
    rw [List.foldl_cons, ih hL]
    · rcases ha with rfl | rfl <;> rcases hx with rfl | rfl <;> simp [bAnd, bpair, bnorm, gu, andsL, ofB]
    · rcases ha with rfl | rfl <;> rcases hx with rfl | rfl <;> decide
theorem fldA {L : List Int} (h : B01 L) (hne : L ≠ []) : fld bAnd L = ofB (L.all (· == 1)) := by
  cases L with
  | nil => exact absurd rfl hne
  | cons x L =>
    have hx := h x (by simp)
    have hL : B01 L := fun y hy => h y (by simp [hy])
    show L.foldl bAnd (bBuf x) = _
    have e : bBuf x = x := by rcases hx with rfl | rfl <;> decide
    rw [e, foldA hL x hx]
    rfl
theorem eqB_T {l : List Int} {s : Bool} {m : List Int} {t : Bool} (hx : B01 (bX l s m t)) (hy : B01 (bY l s m t)) (hne : bX l s m t ≠ []) : eqB l s m t = ofB (bX l s m t == bY l s m t) := by
  unfold eqB bwF
  have hb : ∀ x y : Int, (x = 0 ∨ x = 1) → (y = 0 ∨ y = 1) → bEq x y = ofB (x == y) := by
    intro x y h1 h2
    rcases h1 with rfl | rfl <;> rcases h2 with rfl | rfl <;> decide
  rw [fldA]
  · congr 1
    rw [Bool.eq_iff_iff, beq_iff_eq, gu_ext' mXY, List.all_eq_true]
    constructor
    · intro h i hi
      have h1 := hx _ (gu_mem hi)
      have h2 := hy _ (gu_mem (l := bY l s m t) (by rw [← mXY]; exact hi))
      have := h (bEq (gu (bX l s m t) i) (gu (bY l s m t) i)) (List.mem_map.2 ⟨i, List.mem_range.2 hi, rfl⟩)
      rw [hb _ _ h1 h2] at this
      rcases h1 with h1 | h1 <;> rcases h2 with h2 | h2 <;> rw [h1, h2] at this ⊢ <;> revert this <;> decide
    · intro h x hx'
      obtain ⟨i, hi, rfl⟩ := List.mem_map.1 hx'
      rw [List.mem_range] at hi
      have h1 := hx _ (gu_mem hi)
      have h2 := hy _ (gu_mem (l := bY l s m t) (by rw [← mXY]; exact hi))
      rw [hb _ _ h1 h2, h i hi]
      simp [ofB]
  · intro x hx'
    obtain ⟨i, hi, rfl⟩ := List.mem_map.1 hx'
    rw [List.mem_range] at hi
    have h1 := hx _ (gu_mem hi)
    have h2 := hy _ (gu_mem (l := bY l s m t) (by rw [← mXY]; exact hi))
    rw [hb _ _ h1 h2]
    unfold ofB
    split
    · exact .inr rfl
    · exact .inl rfl
  · intro e
    have := congrArg List.length e
    rw [zipW_len] at this
    exact hne (List.length_eq_zero_iff.1 this)
end Go.Proofs.YtdgbdkfoeaollaaDoor.V
