/- The laws' world: what awake answers is told from without, once. -/
import Derived.Test.YteeckncfllbokaaXA
import Derived.Test.YteeckncfllbokaaALc
set_option linter.unusedSimpArgs false
set_option linter.unusedVariables false
namespace Go.Proofs.Yteeckncfllbokaa.X
open Go Go.AL
def ext0 : Nat → Option (List Value → AH → Option (Value × AH)) := fun f => if f = 14 then some (closedCall IR.ft 0 1000 14) else none
theorem ext0_ok : Ext0 ext0 := fun f hf => if_neg hf
def isTrueW : Option (Value × AH) → Bool
  | some (.bool true, _) => true
  | _ => false
theorem awake_run : isTrueW (evF IR.ft noExt 1000 14 [] ⟨.nil, 0, 0⟩) = true := by kernel_rfl
theorem isTrueW_some {r : Option (Value × AH)} (h : isTrueW r = true) : ∃ H, r = some (.bool true, H) := by
  unfold isTrueW at h
  split at h
  · exact ⟨_, rfl⟩
  · cases h
theorem closed_eq {ft : T FI} {N f : Nat} {v : Value} {H H1 : AH} (h : evF ft noExt N f [] ⟨.nil, 0, 0⟩ = some (v, H1)) (hp : plainS v = true) : closedCall ft 0 N f [] H = some (v, H) := by
  have e : globH H 0 = ⟨.nil, 0, 0⟩ := rfl
  unfold closedCall
  simp only [globOk, cond_true, e, h, hp]
theorem awake_any {H : AH} : Run (Cx ext0) 14 [] H fun r H' => H' = H ∧ r = .bool true := by
  obtain ⟨H1, h⟩ := isTrueW_some awake_run
  exact Run.ext (g := closedCall IR.ft 0 1000 14) rfl (v := .bool true) (H' := H) (closed_eq h rfl) ⟨rfl, rfl⟩
theorem no_glob : Try.prog.globals.size = 0 := by kernel_rfl
theorem ext0_sim : ∀ f g, ext0 f = some g → SimG Try.prog f g := by
  intro f g hg
  unfold ext0 at hg
  split at hg
  · rename_i hf
    subst hf
    obtain rfl := Option.some.inj hg
    have := closed_sim IR.mixed IR.ft_ok 1000 14
    rw [no_glob] at this
    exact this
  · cases hg
/-- awake, called where nothing of the heap is asked. -/
theorem Ow.awake {E : Env} {H : AH} {d : Option Nat} {g : Option (Nat × Bool)} {os : List IOper} {Q : Env → AH → List (Bool × Bool) → Prop} (hg : wanted E g = some true)
    (h : ∀ wl, AL.Ext H { H with wl := wl } → Ow (Cx ext0) os (put E d (.bool true)) { H with wl := wl } fun E' H' fl => Q E' H' ((true, false) :: fl)) : Ow (Cx ext0) (⟨d, g, .call (.func 14) []⟩ :: os) E H Q := by
  refine Ow.callE (k := 14) (fs := []) (cs := []) (vs := []) (R := fun r H' => H' = { H with wl := H.n } ∧ r = .bool true) hg rfl rfl (awake_any.mono fun r H' hr => ⟨by rw [hr.1]; exact AL.Ext.refl _, hr⟩) ?_
  rintro v H1 wl hx ⟨rfl, rfl⟩
  exact h wl hx
end Go.Proofs.Yteeckncfllbokaa.X
