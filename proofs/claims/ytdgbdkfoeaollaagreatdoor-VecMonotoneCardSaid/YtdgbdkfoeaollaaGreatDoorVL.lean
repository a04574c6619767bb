/- From a law's contract to its call in the model. -/
import Derived.Test.YtdgbdkfoeaollaaGreatDoorVA
import Derived.Test.YtdgbdkfoeaollaaGreatDoorALe
import Derived.Test.YtdgbdkfoeaollaaGreatDoorLaid
namespace Go.Proofs.YtdgbdkfoeaollaaGreatDoor.V
open Go Go.AL Go.SX
def tabs : List Row := [tabRow 0 (u8s Go.Proofs.YtdgbdkfoeaollaaGreatDoor.orsL), tabRow 1 (u8s Go.Proofs.YtdgbdkfoeaollaaGreatDoor.notsL), tabRow 2 (u8s Go.Proofs.YtdgbdkfoeaollaaGreatDoor.andsL), tabRow 3 (u8s Go.Proofs.YtdgbdkfoeaollaaGreatDoor.xorsL)]
theorem tabs_at {W : World} (h : Glob W) : RowsAt W tabs := fun i r hr => by
  match i, hr with
  | 0, hr => obtain rfl := Option.some.inj hr; exact tab_row h.ors (by decide) (by kernel_rfl) (by decide)
  | 1, hr => obtain rfl := Option.some.inj hr; exact tab_row h.nots (by decide) (by kernel_rfl) (by decide)
  | 2, hr => obtain rfl := Option.some.inj hr; exact tab_row h.ands (by decide) (by kernel_rfl) (by decide)
  | 3, hr => obtain rfl := Option.some.inj hr; exact tab_row h.xors (by decide) (by kernel_rfl) (by decide)
theorem rows_app {W : World} {a b : List Row} (ha : RowsAt W a) (hb : RowsAt W b) : RowsAt W (a ++ b) := fun i r hr => by
  by_cases h : i < a.length
  · rw [List.getElem?_append_left h] at hr; exact ha i r hr
  · rw [List.getElem?_append_right (by omega)] at hr; exact hb _ r hr
theorem tabs_β {rs : List Row} : ∀ g, g < Tryz.prog.globals.size → rowβ (tabs ++ rs) g = some ⟨g, 0, 0⟩ := fun g hg => by
  rw [four] at hg
  match g, hg with
  | 0, _ => exact tab_β (vs := u8s Go.Proofs.YtdgbdkfoeaollaaGreatDoor.orsL) rfl (by decide)
  | 1, _ => exact tab_β (vs := u8s Go.Proofs.YtdgbdkfoeaollaaGreatDoor.notsL) rfl (by decide)
  | 2, _ => exact tab_β (vs := u8s Go.Proofs.YtdgbdkfoeaollaaGreatDoor.andsL) rfl (by decide)
  | 3, _ => exact tab_β (vs := u8s Go.Proofs.YtdgbdkfoeaollaaGreatDoor.xorsL) rfl (by decide)
  | n + 4, h => exact absurd h (by omega)
theorem gl_rows (rs : List Row) : Gl TB (rowH (tabs ++ rs)) := fun k l hk => by
  have h4 : k < 4 := (List.getElem?_eq_some_iff.1 hk).1
  refine ⟨by show k < (tabs ++ rs).length; rw [List.length_append]; exact Nat.lt_of_lt_of_le h4 (Nat.le_add_right 4 _), ?_⟩
  rw [rowH_get, List.getElem?_append_left (show k < 4 from h4)]
  match k, h4, hk with
  | 0, _, hk => obtain rfl := Option.some.inj hk; rfl
  | 1, _, hk => obtain rfl := Option.some.inj hk; rfl
  | 2, _, hk => obtain rfl := Option.some.inj hk; rfl
  | 3, _, hk => obtain rfl := Option.some.inj hk; rfl
theorem row_rdS {A : Nat → Prop} {W : World} {rs : List Row} (h : RowsAt W rs) {i : Nat} {r : Row} {l : List Int} (hA : ∀ id, ¬ A id) (hr : rs[i]? = some r) (hl : r.cs = intV l) (hlen : r.len = l.length) : RdS A (rowH rs) (r.val i) (intV l) := by
  have hrow := h i r hr
  unfold Row.val
  cases ha : r.A with
  | none =>
    obtain ⟨h1, h2⟩ := hrow.nil ha
    have : l = [] := List.length_eq_zero_iff.1 (by omega)
    subst this
    exact ⟨none, 0, rfl, .inr (Nat.le_refl _), fun h => absurd rfl h⟩
  | some a =>
    simp only
    have e : (intV l).length = l.length := by simp [intV]
    refine ⟨some ⟨i, a.off, none⟩, r.cap, by rw [hlen, e], .inr (by have := hrow.le; omega), fun hne => ⟨_, rfl, r.blk, (List.getElem?_eq_some_iff.1 hr).1, hA _, by rw [rowH_get, hr]; rfl, fun j b hj => ?_⟩⟩
    unfold Row.blk
    rw [ha]
    simp only
    rw [List.getElem?_append_right (by simp), List.length_replicate, hl, show a.off + j - a.off = j by omega, hj]
/-- What a law's contract says of its call. -/
theorem law_of {W : World} {rs : List Row} {k : Nat} {args : List SV} {vs cargs : List Value} (hG : Glob W) (hrs : RowsAt W rs) (h : FvC CX TB (.f k [] []) args [] (RB true)) (hda : DenL (Own [] []) [] (rowH (tabs ++ rs)) args vs) (hargs : VRs (rowβ (tabs ++ rs)) vs cargs) :
    Calls Tryz.prog k ⟨cargs⟩ W fun e W' => e = .returned (.bool true) ∧ Go.RowKit.Below W.heap.size W W' := by
  have ho : Obs [] [] (rowH (tabs ++ rs)) := ⟨rfl, fun i o v h => by simp at h, fun i j o o' v v' id h => by simp at h⟩
  obtain ⟨k', fs, cs, e, hr⟩ := h (rowH (tabs ++ rs)) [] (.func (.func k) ⟨[]⟩ ⟨[]⟩) vs ho (gl_rows rs) ⟨[], [], rfl, rfl, rfl⟩ hda
  cases e
  refine law_callsG (C := CX) IR.mixed IR.ft_ok extV_sim (by rw [four]; exact Nat.le_trans (by decide : 4 ≤ tabs.length) (by rw [List.length_append]; exact Nat.le_add_right _ _)) tabs_β (rows_app (tabs_at hG) hrs) hargs ?_
  have e2 : ([] : List Value) ++ (vs ++ []) = vs := by simp
  rw [e2] at hr
  refine hr.mono fun v H' ⟨m', r, ro, ⟨x, h1, h2, h3⟩, h4, h5, h6, _⟩ => ?_
  subst h1 h3
  exact h6
end Go.Proofs.YtdgbdkfoeaollaaGreatDoor.V
