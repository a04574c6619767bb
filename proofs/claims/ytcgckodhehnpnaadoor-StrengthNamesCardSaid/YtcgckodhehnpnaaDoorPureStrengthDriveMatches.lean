/- The plain law StrengthDriveMatches. -/
import Derived.Test.YtcgckodhehnpnaaDoorPureStrengthDrivers
import Derived.Test.YtcgckodhehnpnaaDoorF10
namespace Go.Proofs.YtcgckodhehnpnaaDoor.Pure
open Go.RowKit Go.Proofs.YtcgckodhehnpnaaDoor.F Go.Proofs.YtcgckodhehnpnaaDoorW.PrintWords Go.Proofs.YtcgckodhehnpnaaDoorW.PrintLast Go.Proofs.YtcgckodhehnpnaaDoorW.PrintMore
theorem rdrive_eq (b s t : Int) : netlabref02_Drive.f b s t = strength_Drive.f b s t := rfl
theorem rname_eq (s : Int) (hs : 0 ≤ s) (one : Bool) : netlabref02_Name.f s one = strength_Name.f s one := by
  have e : netlabref02_Name.f (mn s 7) one = netlabref02_Name.f s one := by
    have h : ∀ z, mn (mn z 7) 7 = mn z 7 := by intro z; unfold mn; repeat' split
                                               all_goals omega
    unfold netlabref02_Name.f
    rw [h]
  have e2 : strength_Name.f (mn s 7) one = strength_Name.f s one := by
    have h : ∀ z, mn (mn z 7) 7 = mn z 7 := by intro z; unfold mn; repeat' split
                                               all_goals omega
    unfold strength_Name.f
    rw [h, if_pos hs, if_pos (by unfold mn; split <;> omega)]
  rw [← e, ← e2]
  obtain ⟨y, hy⟩ := wrap_mn hs
  rw [hy]
  clear hy e e2
  revert y one
  decide +kernel
theorem StrengthDriveMatches (b s t : Int) (_ : (Lit.int .u8 b).wf = true) (ws : (Lit.int .u8 s).wf = true) (wt : (Lit.int .u8 t).wf = true) :
    ∃ k, netlablaw02_StrengthDriveMatches.f k b s t = some true := by
  refine Ev.rounds ?_
  unfold netlablaw02_StrengthDriveMatches.f
  simp only [rdrive_eq, rname_eq s (wfu ws).1, rname_eq t (wfu wt).1]
  have h1 : ∃ u v, strength_Drive.f b s t = some (u, v) := by
    unfold strength_Drive.f strength_level.f
    repeat' split
    all_goals exact ⟨_, _, rfl⟩
  obtain ⟨u, v, h1⟩ := h1
  have h2 : strength_Name.f s false = some _ := if_pos (wfu ws).1
  have h3 : strength_Name.f t true = some _ := if_pos (wfu wt).1
  simp only [h1, h2, h3, Option.bind_some, beq_self_eq_true, Bool.and_self, if_true]
  exact Ev.bind awake_eq (Ev.congr (fun k => if_pos rfl) (Ev.now _))
end Go.Proofs.YtcgckodhehnpnaaDoor.Pure
