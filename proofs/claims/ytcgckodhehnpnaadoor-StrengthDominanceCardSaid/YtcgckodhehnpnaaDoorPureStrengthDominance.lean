/- The plain law StrengthDominance. -/
import Derived.Test.YtcgckodhehnpnaaDoorPStr
import Derived.Test.YtcgckodhehnpnaaDoorF12
namespace Go.Proofs.YtcgckodhehnpnaaDoor.Pure
open Go.RowKit Go.Proofs.YtcgckodhehnpnaaDoor.F Go.Proofs.YtcgckodhehnpnaaDoorW.PrintWords Go.Proofs.YtcgckodhehnpnaaDoorW.PrintLast Go.Proofs.YtcgckodhehnpnaaDoorW.PrintMore
theorem StrengthDominance (a b c d : Int) (_ : (Lit.int .i8 a).wf = true) (_ : (Lit.int .i8 b).wf = true) (_ : (Lit.int .i8 c).wf = true) (_ : (Lit.int .i8 d).wf = true) :
    ∃ k, netlablaw02_StrengthDominance.f k a b c d = some true := by
  have g1 := nl_lv a b; have g2 := nh_lv a b; have g3 := nl_nh a b
  have g4 := nl_lv c d; have g5 := nh_lv c d; have g6 := nl_nh c d
  refine Ev.rounds ?_
  unfold netlablaw02_StrengthDominance.f
  rw [Norm_eq, Norm_eq]
  simp only [Option.bind_some]
  generalize nl a b = x at *
  generalize nh a b = y at *
  generalize nl c d = p at *
  generalize nh c d = q at *
  have yes : Ev (fun k => netlablaw02_StrengthDominance.j0 k true x y p q) true :=
    by refine Ev.step (fun k => ?_) awake_end; rfl
  have no : (x > 0 ∨ y < 0) → (decide ((mn (mx x (IntKind.i8.wrap (-x))) (mx y (IntKind.i8.wrap (-y)))) ≤ (mx q (IntKind.i8.wrap (-p))))) = false → Ev (fun k => netlablaw02_StrengthDominance.j0 k false x y p q) true := by
    intro h0 h1
    have n1 := fun z (hz : Lv z) => wrap_neg hz
    rw [n1 x g1, n1 y g2, n1 p g4] at h1
    have h1 := of_decide_eq_false h1
    have h2 : (x > 0 ∧ (-x < p ∧ q < x)) ∨ (y < 0 ∧ (y < p ∧ q < -y)) := by
      revert h1 h0
      unfold mn mx
      unfold Lv at g1 g2 g4 g5
      repeat' split
      all_goals omega
    have e1 : lo x p = x ∧ hi y q = y ∧ lo p x = x ∧ hi q y = y := by
      unfold lo hi
      refine ⟨?_, ?_, ?_, ?_⟩ <;> (repeat' split) <;> omega
    have v1 := Combine2_eq x y p q
    have v2 := Combine2_eq p q x y
    rw [nl_id g1 g2 g3, nl_id g4 g5 g6, nh_id g1 g2 g3, nh_id g4 g5 g6] at v1 v2
    rw [e1.1, e1.2.1] at v1
    rw [e1.2.2.1, e1.2.2.2] at v2
    have s2 := Ev.bind (f := fun k bt => if (bt.1 == x && (bt.2 == y)) = true then ((netlablaw02_awake.f k).bind fun t323 => (if t323 = true then (some true) else (none))) else (none)) v2 (Ev.congr (fun k => if_pos (by simp)) awake_end)
    have s1 := Ev.bind (f := fun k bt => if (bt.1 == x && (bt.2 == y)) = true then ((strength_Combine.f k (([(⟨p, q⟩ : S26), (⟨x, y⟩ : S26)] : List (S26)))).bind fun bt => if (bt.1 == x && (bt.2 == y)) = true then ((netlablaw02_awake.f k).bind fun t323 => (if t323 = true then (some true) else (none))) else (none)) else none) v1 (Ev.congr (fun k => if_pos (by simp)) s2)
    refine Ev.step (fun k => ?_) s1
    rfl
  by_cases h1 : x ≤ 0
  · by_cases h2 : y ≥ 0
    · exact Ev.congr (fun k => by rw [if_pos h1, if_pos h2]) yes
    · refine Ev.congr (fun k => by rw [if_pos h1, if_neg h2]) ?_
      cases hd : (decide ((mn (mx x (IntKind.i8.wrap (-x))) (mx y (IntKind.i8.wrap (-y)))) ≤ (mx q (IntKind.i8.wrap (-p)))))
      · exact no (by omega) hd
      · exact yes
  · refine Ev.congr (fun k => by rw [if_neg h1]) ?_
    cases hd : (decide ((mn (mx x (IntKind.i8.wrap (-x))) (mx y (IntKind.i8.wrap (-y)))) ≤ (mx q (IntKind.i8.wrap (-p)))))
    · exact no (by omega) hd
    · exact yes
end Go.Proofs.YtcgckodhehnpnaaDoor.Pure
