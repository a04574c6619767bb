/- The plain law StrengthDrivers. -/
import Derived.Test.YtcgckodhehnpnaaDoorPStr
import Derived.Test.YtcgckodhehnpnaaDoorF23
namespace Go.Proofs.YtcgckodhehnpnaaDoor.Pure
open Go.RowKit Go.Proofs.YtcgckodhehnpnaaDoor.F Go.Proofs.YtcgckodhehnpnaaDoorW.PrintWords Go.Proofs.YtcgckodhehnpnaaDoorW.PrintLast Go.Proofs.YtcgckodhehnpnaaDoorW.PrintMore
theorem wrap_mn {a : Int} (h : 0 ≤ a) : ∃ i : Fin 8, mn a 7 = (i.val : Int) := by
  by_cases g : 7 < a
  · exact ⟨7, by unfold mn; rw [if_pos g]; rfl⟩
  · exact ⟨⟨a.toNat, by omega⟩, by unfold mn; rw [if_neg g]; simp; omega⟩
def cb4 (b : Int) : Int := if b = 0 then 0 else if b = 1 then 1 else if b = 3 then 3 else 2
def vb (x : Fin 4) : Int := x.val
theorem cb4_v (b : Int) : ∃ x : Fin 4, cb4 b = vb x := by
  unfold cb4; repeat' split
  · exact ⟨0, rfl⟩
  · exact ⟨1, rfl⟩
  · exact ⟨3, rfl⟩
  · exact ⟨2, rfl⟩
theorem wfu {a : Int} (h : (Lit.int .u8 a).wf = true) : 0 ≤ a ∧ a ≤ 255 := by
  have h' : (decide ((0 : Int) ≤ a) && decide (a ≤ 255)) = true := h
  simpa using h'
theorem drive_cl (b s t : Int) : strength_Drive.f (cb4 b) s t = strength_Drive.f b s t := by
  unfold strength_Drive.f cb4
  repeat' split
  all_goals first | rfl | omega
theorem drive_mn (b s t : Int) : strength_Drive.f b (mn s 7) (mn t 7) = strength_Drive.f b s t := by
  have h : ∀ z, mn (mn z 7) 7 = mn z 7 := by intro z; unfold mn; repeat' split
                                             all_goals omega
  unfold strength_Drive.f
  rw [h, h]
theorem same_cl (t b : Int) (hb : 0 ≤ b) : bit_Same.f t (cb4 b) = bit_Same.f t b := by
  unfold bit_Same.f bit_norm.f bit_Valid.f cb4
  simp only [Option.bind_some, decide_eq_true_eq]
  repeat' split
  all_goals first | rfl | omega | (congr 1; simp_all; done) | (rw [show b = 2 by omega])
theorem StrengthDrivers (b s t : Int) (wb : (Lit.int .u8 b).wf = true) (ws : (Lit.int .u8 s).wf = true) (wt : (Lit.int .u8 t).wf = true) :
    ∃ k, netlablaw02_StrengthDrivers.f k b s t = some true := by
  refine ⟨300, ?_⟩
  have hz : ∀ z, 0 ≤ z → (mn z 7 = 0 ↔ z = 0) := by intro z hz; unfold mn; split <;> omega
  have e : netlablaw02_StrengthDrivers.f 300 (cb4 b) (mn s 7) (mn t 7) = netlablaw02_StrengthDrivers.f 300 b s t := by
    unfold netlablaw02_StrengthDrivers.f netlablaw02_StrengthDrivers.j0
    simp only [drive_cl, drive_mn, same_cl _ _ (wfu wb).1, hz s (wfu ws).1, hz t (wfu wt).1]
  rw [← e]
  obtain ⟨x, hx⟩ := cb4_v b
  obtain ⟨y, hy⟩ := wrap_mn (wfu ws).1
  obtain ⟨z, hz⟩ := wrap_mn (wfu wt).1
  rw [hx, hy, hz]
  clear hx hy hz e wb ws wt
  revert x y z
  decide +kernel
end Go.Proofs.YtcgckodhehnpnaaDoor.Pure
