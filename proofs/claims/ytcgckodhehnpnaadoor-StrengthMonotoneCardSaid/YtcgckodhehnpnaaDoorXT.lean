/- The table as the interpreter's heap; laws that the kernel runs. -/
import Derived.Test.YtcgckodhehnpnaaDoorIR
import Derived.Test.YtcgckodhehnpnaaDoorLaid
namespace Go.Proofs.YtcgckodhehnpnaaDoor.X
open Go Go.AL
def tabs : List Row := [tabRow 0 (strs namesL)]
theorem tabs_at {W : World} (h : Glob W) : RowsAt W tabs := fun i r hr => by
  match i, hr with
  | 0, hr => obtain rfl := Option.some.inj hr; exact tab_row h.names (by simp [strs, namesL]) (by kernel_rfl) (by simp [strs, namesL, UC])
theorem one : Tryd.prog.globals.size = 1 := by kernel_rfl
theorem tabs_β : ∀ g, g < Tryd.prog.globals.size → rowβ tabs g = some ⟨g, 0, 0⟩ := fun g hg => by
  rw [one] at hg
  obtain rfl : g = 0 := by omega
  exact tab_β (vs := strs namesL) rfl (by simp [strs, namesL])
abbrev C0 : Ctx := ⟨IR.ft, noExt⟩
def isTrue : Option (Value × AH) → Bool
  | some (.bool true, _) => true
  | _ => false
theorem isTrue_some {r : Option (Value × AH)} (h : isTrue r = true) : ∃ H, r = some (.bool true, H) := by
  unfold isTrue at h
  split at h
  · exact ⟨_, rfl⟩
  · cases h
theorem run_of {f : Nat} {args : List Value} {H : AH} (h : isTrue (evF IR.ft noExt 1000 f args H) = true) : Run C0 f args H fun r _ => r = .bool true := by
  obtain ⟨H', h⟩ := isTrue_some h
  exact ⟨1000, _, H', h, rfl⟩
theorem law {W : World} (hG : Glob W) {f : Nat} {args cargs : List Value} (hargs : VRs (rowβ tabs) args cargs) (h : isTrue (evF IR.ft noExt 1000 f args (rowH tabs)) = true) :
    Calls Tryd.prog f ⟨cargs⟩ W fun e W' => e = .returned (.bool true) ∧ Go.RowKit.Below W.heap.size W W' :=
  law_callsG (C := C0) IR.mixed IR.ft_ok (fun f g hg => by cases hg) (by rw [one]; decide) tabs_β (tabs_at hG) hargs (run_of h)
end Go.Proofs.YtcgckodhehnpnaaDoor.X
