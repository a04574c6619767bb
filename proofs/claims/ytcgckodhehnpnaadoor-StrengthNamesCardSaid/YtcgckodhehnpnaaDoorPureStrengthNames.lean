/- The plain law StrengthNames. -/
import Derived.Test.YtcgckodhehnpnaaDoorPureStrengthParseMatches
import Derived.Test.YtcgckodhehnpnaaDoorF12
namespace Go.Proofs.YtcgckodhehnpnaaDoor.Pure
open Go.RowKit Go.Proofs.YtcgckodhehnpnaaDoor.F Go.Proofs.YtcgckodhehnpnaaDoorW.PrintWords Go.Proofs.YtcgckodhehnpnaaDoorW.PrintLast Go.Proofs.YtcgckodhehnpnaaDoorW.PrintMore
theorem name_back (y : Fin 8) (one : Bool) : ∃ t, strength_Name.f (y.val : Int) one = some t ∧ strength_Parse.f t = some ((y.val : Int), one, true) := by
  have h : (match strength_Name.f (y.val : Int) one with | some t => decide (strength_Parse.f t = some ((y.val : Int), one, true)) | none => false) = true := by
    revert y one
    decide +kernel
  split at h
  · next t e => exact ⟨t, e, of_decide_eq_true h⟩
  · cases h
theorem StrengthNames (s : Int) (one : Bool) (name : ByteArray) (ws : (Lit.int .u8 s).wf = true) (hn : name.size ≤ 140737488351232) : ∃ k, netlablaw02_StrengthNames.f k s one name = some true := by
  obtain ⟨r, h1, _, h3⟩ := parse_eq name hn
  obtain ⟨y, hy⟩ := wrap_mn (wfu ws).1
  obtain ⟨t, e1, e2⟩ := name_back y one
  have e0 : strength_Name.f s one = strength_Name.f (y.val : Int) one := by
    rw [← hy]
    have h : ∀ z, mn (mn z 7) 7 = mn z 7 := by intro z; unfold mn; repeat' split
                                               all_goals omega
    unfold strength_Name.f
    rw [h, if_pos (wfu ws).1, if_pos (show (0 : Int) ≤ mn s 7 by have := (wfu ws).1; unfold mn; split <;> omega)]
  refine Ev.rounds ?_
  unfold netlablaw02_StrengthNames.f
  simp only [e0, e1, e2, h1, Option.bind_some, hy, if_true, bne_self_eq_false]
  rcases h3 with rfl | ⟨j, o, hj, rfl, hs⟩
  · refine Ev.step (fun k => ?_) awake_end
    simp only [netlablaw02_StrengthNames.j0]
    rfl
  · obtain ⟨u, g1, g2⟩ := rname_at hj o
    rw [rname_eq _ (by omega)] at g1
    refine Ev.step (fun k => ?_) awake_end
    simp only [netlablaw02_StrengthNames.j0]
    rw [if_neg (by simp), if_pos trivial, if_pos (by omega), g1]
    simp only [Option.bind_some]
    rw [if_pos (by rw [g2, hs])]
end Go.Proofs.YtcgckodhehnpnaaDoor.Pure
