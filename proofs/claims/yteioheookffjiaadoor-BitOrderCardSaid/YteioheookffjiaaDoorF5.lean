-- Written by a program of this session (wip/tools/drive.py) over the kit's print.py.
import Derived.Test.YteioheookffjiaaDoorF0
import Derived.Test.YteioheookffjiaaDoorF1
import Derived.Test.YteioheookffjiaaDoorF2
namespace Go.Proofs.YteioheookffjiaaDoor.F
open Go.RowKit Go.Proofs.YteioheookffjiaaDoorW.PrintWords Go.Proofs.YteioheookffjiaaDoorW.PrintLast Go.Proofs.YteioheookffjiaaDoorW.PrintMore
attribute [local go_sem] max2_int min2_int max_two min_two max_three min_three max_four min_four   -- for this text's walks alone
set_option linter.unusedVariables false
set_option linter.unusedSimpArgs false

/-! ### netlablaw01_BitOrder: function 5 -/
def netlablaw01_BitOrder.j0 : Nat → Int → Int → Bool → Option (Bool)
  | 0, _, _, _ => none
  | k + 1, x0, x1, x40 => if x40 = true then (some false) else ((bit_Known.f x0).bind fun t199 => (if t199 = true then ((bit_Leq.f x0 x1).bind fun t200 => ((bit_Same.f x0 x1).bind fun t201 => (if (t200 == t201) = true then ((netlablaw01_awake.f k).bind fun t202 => (some t202)) else (some false)))) else ((netlablaw01_awake.f k).bind fun t203 => (some t203))))
def netlablaw01_BitOrder.f (k : Nat) (a0 : Int) (a1 : Int) (a2 : Int) : Option (Bool) := (bit_Leq.f a0 a0).bind fun t191 => (if t191 = true then ((bit_Leq.f a0 a1).bind fun t192 => (if t192 = true then ((bit_Leq.f a1 a2).bind fun t193 => (if t193 = true then ((bit_Leq.f a0 a2).bind fun t194 => (if t194 = true then ((bit_Leq.f a1 a0).bind fun t195 => ((bit_Same.f a0 a1).bind fun t196 => (netlablaw01_BitOrder.j0 k a0 a1 (t195 != t196)))) else (netlablaw01_BitOrder.j0 k a0 a1 true))) else ((bit_Leq.f a1 a0).bind fun t197 => ((bit_Same.f a0 a1).bind fun t198 => (netlablaw01_BitOrder.j0 k a0 a1 (t197 != t198)))))) else (netlablaw01_BitOrder.j0 k a0 a1 false))) else (netlablaw01_BitOrder.j0 k a0 a1 true))
theorem netlablaw01_BitOrder.mono_l : ∀ k, (∀ y0 y1 y2, LeO (netlablaw01_BitOrder.j0 k y0 y1 y2) (netlablaw01_BitOrder.j0 (k + 1) y0 y1 y2))
  | 0 => fun _ _ _ r h => by simp [netlablaw01_BitOrder.j0] at h
  | k + 1 => by
    have ih0 := netlablaw01_BitOrder.mono_l k
    · intro y0 y1 y2
      unfold netlablaw01_BitOrder.j0
      repeat' first
      | (with_reducible exact ih0 _ _ _)
      | (with_reducible exact netlablaw01_awake.mono _)
      | (with_reducible exact LeO.refl _)
      | (with_reducible exact LeO.none _)
      | (with_reducible refine LeO.ite ?_ ?_)
      | (with_reducible refine LeO.bind ?_ (fun _ => ?_))
      | exact ih0 _ _ _
      | exact netlablaw01_awake.mono _
      | exact LeO.none _
      | refine LeO.ite ?_ ?_
      | refine LeO.bind ?_ (fun _ => ?_)
theorem netlablaw01_BitOrder.mono : ∀ a0 a1 a2 k, LeO (netlablaw01_BitOrder.f k a0 a1 a2) (netlablaw01_BitOrder.f (k + 1) a0 a1 a2) := by
  intro a0 a1 a2 k
  have ih0 := netlablaw01_BitOrder.mono_l k
  unfold netlablaw01_BitOrder.f
  repeat' first
      | (with_reducible exact ih0 _ _ _)
      | (with_reducible exact netlablaw01_awake.mono _)
      | (with_reducible exact LeO.refl _)
      | (with_reducible exact LeO.none _)
      | (with_reducible refine LeO.ite ?_ ?_)
      | (with_reducible refine LeO.bind ?_ (fun _ => ?_))
      | exact ih0 _ _ _
      | exact netlablaw01_awake.mono _
      | exact LeO.none _
      | refine LeO.ite ?_ ?_
      | refine LeO.bind ?_ (fun _ => ?_)
set_option maxHeartbeats 8000000 in
set_option maxRecDepth 100000 in
theorem netlablaw01_BitOrder.calls (k : Nat) (a0 : Int) (a1 : Int) (a2 : Int) (r : Bool) (w : World) (hG : Glob w) (h : netlablaw01_BitOrder.f k a0 a1 a2 = some r) :
    Calls Tryd.prog 5 #[.int .u8 a0, .int .u8 a1, .int .u8 a2] w fun e w' => e = .returned (.bool r) ∧ Drawn0 w w' := by
  have HG := Aside0.mk hG
  clear hG
  have H : ((bit_Leq.f a0 a0).bind fun t191 => (if t191 = true then ((bit_Leq.f a0 a1).bind fun t192 => (if t192 = true then ((bit_Leq.f a1 a2).bind fun t193 => (if t193 = true then ((bit_Leq.f a0 a2).bind fun t194 => (if t194 = true then ((bit_Leq.f a1 a0).bind fun t195 => ((bit_Same.f a0 a1).bind fun t196 => (netlablaw01_BitOrder.j0 k a0 a1 (t195 != t196)))) else (netlablaw01_BitOrder.j0 k a0 a1 true))) else ((bit_Leq.f a1 a0).bind fun t197 => ((bit_Same.f a0 a1).bind fun t198 => (netlablaw01_BitOrder.j0 k a0 a1 (t197 != t198)))))) else (netlablaw01_BitOrder.j0 k a0 a1 false))) else (netlablaw01_BitOrder.j0 k a0 a1 true))) = some r := h
  clear h
  have HC4 := Aside0.mk H
  clear H
  go_enter Tryd.func5, Tryd.ntmps5
  go_upto_region 1 with (fail)
  go_cut [40] (fun v40 wc => ∃ (kq : Nat) (x40_3 : Bool), v40 = .bool x40_3 ∧ Aside0 (netlablaw01_BitOrder.j0 kq a0 a1 x40_3 = some r) ∧ Aside0 (kq ≤ k) ∧ Drawn0 w wc)
  case first =>
    have H := HC4.out
    clear HC4
    replace H := Option.bind_eq_some_iff.mp H
    obtain ⟨t191, A50, H⟩ := H
    replace H : (if t191 = true then ((bit_Leq.f a0 a1).bind fun t192 => (if t192 = true then ((bit_Leq.f a1 a2).bind fun t193 => (if t193 = true then ((bit_Leq.f a0 a2).bind fun t194 => (if t194 = true then ((bit_Leq.f a1 a0).bind fun t195 => ((bit_Same.f a0 a1).bind fun t196 => (netlablaw01_BitOrder.j0 k a0 a1 (t195 != t196)))) else (netlablaw01_BitOrder.j0 k a0 a1 true))) else ((bit_Leq.f a1 a0).bind fun t197 => ((bit_Same.f a0 a1).bind fun t198 => (netlablaw01_BitOrder.j0 k a0 a1 (t197 != t198)))))) else (netlablaw01_BitOrder.j0 k a0 a1 false))) else (netlablaw01_BitOrder.j0 k a0 a1 true)) = some r := H
    have A5 := Aside0.mk A50
    clear A50
    by_cases c6 : t191 = true
    · subst c6
      have H1 : ((bit_Leq.f a0 a1).bind fun t192 => (if t192 = true then ((bit_Leq.f a1 a2).bind fun t193 => (if t193 = true then ((bit_Leq.f a0 a2).bind fun t194 => (if t194 = true then ((bit_Leq.f a1 a0).bind fun t195 => ((bit_Same.f a0 a1).bind fun t196 => (netlablaw01_BitOrder.j0 k a0 a1 (t195 != t196)))) else (netlablaw01_BitOrder.j0 k a0 a1 true))) else ((bit_Leq.f a1 a0).bind fun t197 => ((bit_Same.f a0 a1).bind fun t198 => (netlablaw01_BitOrder.j0 k a0 a1 (t197 != t198)))))) else (netlablaw01_BitOrder.j0 k a0 a1 false))) = some r := by rw [if_pos rfl] at H; exact H
      clear H
      have H := H1
      clear H1
      replace H := Option.bind_eq_some_iff.mp H
      obtain ⟨t192, A70, H⟩ := H
      replace H : (if t192 = true then ((bit_Leq.f a1 a2).bind fun t193 => (if t193 = true then ((bit_Leq.f a0 a2).bind fun t194 => (if t194 = true then ((bit_Leq.f a1 a0).bind fun t195 => ((bit_Same.f a0 a1).bind fun t196 => (netlablaw01_BitOrder.j0 k a0 a1 (t195 != t196)))) else (netlablaw01_BitOrder.j0 k a0 a1 true))) else ((bit_Leq.f a1 a0).bind fun t197 => ((bit_Same.f a0 a1).bind fun t198 => (netlablaw01_BitOrder.j0 k a0 a1 (t197 != t198)))))) else (netlablaw01_BitOrder.j0 k a0 a1 false)) = some r := H
      have A7 := Aside0.mk A70
      clear A70
      by_cases c8 : t192 = true
      · subst c8
        have H1 : ((bit_Leq.f a1 a2).bind fun t193 => (if t193 = true then ((bit_Leq.f a0 a2).bind fun t194 => (if t194 = true then ((bit_Leq.f a1 a0).bind fun t195 => ((bit_Same.f a0 a1).bind fun t196 => (netlablaw01_BitOrder.j0 k a0 a1 (t195 != t196)))) else (netlablaw01_BitOrder.j0 k a0 a1 true))) else ((bit_Leq.f a1 a0).bind fun t197 => ((bit_Same.f a0 a1).bind fun t198 => (netlablaw01_BitOrder.j0 k a0 a1 (t197 != t198)))))) = some r := by rw [if_pos rfl] at H; exact H
        clear H
        have H := H1
        clear H1
        replace H := Option.bind_eq_some_iff.mp H
        obtain ⟨t193, A90, H⟩ := H
        replace H : (if t193 = true then ((bit_Leq.f a0 a2).bind fun t194 => (if t194 = true then ((bit_Leq.f a1 a0).bind fun t195 => ((bit_Same.f a0 a1).bind fun t196 => (netlablaw01_BitOrder.j0 k a0 a1 (t195 != t196)))) else (netlablaw01_BitOrder.j0 k a0 a1 true))) else ((bit_Leq.f a1 a0).bind fun t197 => ((bit_Same.f a0 a1).bind fun t198 => (netlablaw01_BitOrder.j0 k a0 a1 (t197 != t198))))) = some r := H
        have A9 := Aside0.mk A90
        clear A90
        by_cases c10 : t193 = true
        · subst c10
          have H1 : ((bit_Leq.f a0 a2).bind fun t194 => (if t194 = true then ((bit_Leq.f a1 a0).bind fun t195 => ((bit_Same.f a0 a1).bind fun t196 => (netlablaw01_BitOrder.j0 k a0 a1 (t195 != t196)))) else (netlablaw01_BitOrder.j0 k a0 a1 true))) = some r := by rw [if_pos rfl] at H; exact H
          clear H
          have H := H1
          clear H1
          replace H := Option.bind_eq_some_iff.mp H
          obtain ⟨t194, A110, H⟩ := H
          replace H : (if t194 = true then ((bit_Leq.f a1 a0).bind fun t195 => ((bit_Same.f a0 a1).bind fun t196 => (netlablaw01_BitOrder.j0 k a0 a1 (t195 != t196)))) else (netlablaw01_BitOrder.j0 k a0 a1 true)) = some r := H
          have A11 := Aside0.mk A110
          clear A110
          by_cases c12 : t194 = true
          · subst c12
            have H1 : ((bit_Leq.f a1 a0).bind fun t195 => ((bit_Same.f a0 a1).bind fun t196 => (netlablaw01_BitOrder.j0 k a0 a1 (t195 != t196)))) = some r := by rw [if_pos rfl] at H; exact H
            clear H
            have H := H1
            clear H1
            replace H := Option.bind_eq_some_iff.mp H
            obtain ⟨t195, A130, H⟩ := H
            replace H : ((bit_Same.f a0 a1).bind fun t196 => (netlablaw01_BitOrder.j0 k a0 a1 (t195 != t196))) = some r := H
            have A13 := Aside0.mk A130
            clear A130
            replace H := Option.bind_eq_some_iff.mp H
            obtain ⟨t196, A140, H⟩ := H
            replace H : (netlablaw01_BitOrder.j0 k a0 a1 (t195 != t196)) = some r := H
            have A14 := Aside0.mk A140
            clear A140
            have H' := Aside0.mk H
            clear H
            go_wp2_with (first | (go_at_call 11; (with_reducible refine (bit_Leq.calls a0 a0 true _ A5.out).mono ?_); rintro e w' ⟨rfl, ⟨nd, rfl⟩⟩) | (go_at_call 11; (with_reducible refine (bit_Leq.calls a0 a1 true _ A7.out).mono ?_); rintro e w' ⟨rfl, ⟨nd, rfl⟩⟩) | (go_at_call 11; (with_reducible refine (bit_Leq.calls a1 a2 true _ A9.out).mono ?_); rintro e w' ⟨rfl, ⟨nd, rfl⟩⟩) | (go_at_call 11; (with_reducible refine (bit_Leq.calls a0 a2 true _ A11.out).mono ?_); rintro e w' ⟨rfl, ⟨nd, rfl⟩⟩) | (go_at_call 11; (with_reducible refine (bit_Leq.calls a1 a0 t195 _ A13.out).mono ?_); rintro e w' ⟨rfl, ⟨nd, rfl⟩⟩) | (go_at_call 20; (with_reducible refine (bit_Same.calls a0 a1 t196 _ A14.out).mono ?_); rintro e w' ⟨rfl, ⟨nd, rfl⟩⟩))
            go_meet
            case rel => exact ⟨_, ((t195 != t196)), (by first | rfl | (simp; done) | (simp [*]; done)), H', ⟨by first | omega | exact Nat.le_refl _⟩, by repeat (first | exact Drawn0.refl _ | apply Drawn0.step)⟩
          · replace c12 := Bool.eq_false_iff.mpr c12
            subst c12
            have H1 : (netlablaw01_BitOrder.j0 k a0 a1 true) = some r := by rw [if_neg (show ¬ (false = true) by decide)] at H; exact H
            clear H
            have H := H1
            clear H1
            have H' := Aside0.mk H
            clear H
            go_wp2_with (first | (go_at_call 11; (with_reducible refine (bit_Leq.calls a0 a0 true _ A5.out).mono ?_); rintro e w' ⟨rfl, ⟨nd, rfl⟩⟩) | (go_at_call 11; (with_reducible refine (bit_Leq.calls a0 a1 true _ A7.out).mono ?_); rintro e w' ⟨rfl, ⟨nd, rfl⟩⟩) | (go_at_call 11; (with_reducible refine (bit_Leq.calls a1 a2 true _ A9.out).mono ?_); rintro e w' ⟨rfl, ⟨nd, rfl⟩⟩) | (go_at_call 11; (with_reducible refine (bit_Leq.calls a0 a2 false _ A11.out).mono ?_); rintro e w' ⟨rfl, ⟨nd, rfl⟩⟩))
            go_meet
            case rel => exact ⟨_, (true), (by first | rfl | (simp; done) | (simp [*]; done)), H', ⟨by first | omega | exact Nat.le_refl _⟩, by repeat (first | exact Drawn0.refl _ | apply Drawn0.step)⟩
        · replace c10 := Bool.eq_false_iff.mpr c10
          subst c10
          have H1 : ((bit_Leq.f a1 a0).bind fun t197 => ((bit_Same.f a0 a1).bind fun t198 => (netlablaw01_BitOrder.j0 k a0 a1 (t197 != t198)))) = some r := by rw [if_neg (show ¬ (false = true) by decide)] at H; exact H
          clear H
          have H := H1
          clear H1
          replace H := Option.bind_eq_some_iff.mp H
          obtain ⟨t197, A150, H⟩ := H
          replace H : ((bit_Same.f a0 a1).bind fun t198 => (netlablaw01_BitOrder.j0 k a0 a1 (t197 != t198))) = some r := H
          have A15 := Aside0.mk A150
          clear A150
          replace H := Option.bind_eq_some_iff.mp H
          obtain ⟨t198, A160, H⟩ := H
          replace H : (netlablaw01_BitOrder.j0 k a0 a1 (t197 != t198)) = some r := H
          have A16 := Aside0.mk A160
          clear A160
          have H' := Aside0.mk H
          clear H
          go_wp2_with (first | (go_at_call 11; (with_reducible refine (bit_Leq.calls a0 a0 true _ A5.out).mono ?_); rintro e w' ⟨rfl, ⟨nd, rfl⟩⟩) | (go_at_call 11; (with_reducible refine (bit_Leq.calls a0 a1 true _ A7.out).mono ?_); rintro e w' ⟨rfl, ⟨nd, rfl⟩⟩) | (go_at_call 11; (with_reducible refine (bit_Leq.calls a1 a2 false _ A9.out).mono ?_); rintro e w' ⟨rfl, ⟨nd, rfl⟩⟩) | (go_at_call 11; (with_reducible refine (bit_Leq.calls a1 a0 t197 _ A15.out).mono ?_); rintro e w' ⟨rfl, ⟨nd, rfl⟩⟩) | (go_at_call 20; (with_reducible refine (bit_Same.calls a0 a1 t198 _ A16.out).mono ?_); rintro e w' ⟨rfl, ⟨nd, rfl⟩⟩))
          go_meet
          case rel => exact ⟨_, ((t197 != t198)), (by first | rfl | (simp; done) | (simp [*]; done)), H', ⟨by first | omega | exact Nat.le_refl _⟩, by repeat (first | exact Drawn0.refl _ | apply Drawn0.step)⟩
      · replace c8 := Bool.eq_false_iff.mpr c8
        subst c8
        have H1 : (netlablaw01_BitOrder.j0 k a0 a1 false) = some r := by rw [if_neg (show ¬ (false = true) by decide)] at H; exact H
        clear H
        have H := H1
        clear H1
        have H' := Aside0.mk H
        clear H
        go_wp2_with (first | (go_at_call 11; (with_reducible refine (bit_Leq.calls a0 a0 true _ A5.out).mono ?_); rintro e w' ⟨rfl, ⟨nd, rfl⟩⟩) | (go_at_call 11; (with_reducible refine (bit_Leq.calls a0 a1 false _ A7.out).mono ?_); rintro e w' ⟨rfl, ⟨nd, rfl⟩⟩))
        go_meet
        case rel => exact ⟨_, (false), (by first | rfl | (simp; done) | (simp [*]; done)), H', ⟨by first | omega | exact Nat.le_refl _⟩, by repeat (first | exact Drawn0.refl _ | apply Drawn0.step)⟩
    · replace c6 := Bool.eq_false_iff.mpr c6
      subst c6
      have H1 : (netlablaw01_BitOrder.j0 k a0 a1 true) = some r := by rw [if_neg (show ¬ (false = true) by decide)] at H; exact H
      clear H
      have H := H1
      clear H1
      have H' := Aside0.mk H
      clear H
      go_wp2_with (first | (go_at_call 11; (with_reducible refine (bit_Leq.calls a0 a0 false _ A5.out).mono ?_); rintro e w' ⟨rfl, ⟨nd, rfl⟩⟩))
      go_meet
      case rel => exact ⟨_, (true), (by first | rfl | (simp; done) | (simp [*]; done)), H', ⟨by first | omega | exact Nat.le_refl _⟩, by repeat (first | exact Drawn0.refl _ | apply Drawn0.step)⟩
  case rest =>
    clear HC4
    try clear c1
    try clear p2
    try clear c5
    try clear c6
    try clear c8
    try clear c10
    try clear c12
    obtain ⟨kq, x40_3, rfl, HA, HJ3, ⟨mc3, rfl⟩⟩ := hcut
    cases kq with
    | zero => exact absurd HA.out (by simp [netlablaw01_BitOrder.j0])
    | succ kj3 =>
      have H := HA.out
      clear HA
      simp only [netlablaw01_BitOrder.j0] at H
      by_cases c17 : x40_3 = true
      · subst c17
        have H1 : (some false) = some r := by rw [if_pos rfl] at H; exact H
        clear H
        have H := H1
        clear H1
        obtain rfl := Option.some.inj H
        go_wp2
        go_ret
        exact ⟨by first | rfl | (simp; done) | (simp [*]; done), by repeat (first | exact Drawn0.refl _ | apply Drawn0.step)⟩
      · replace c17 := Bool.eq_false_iff.mpr c17
        subst c17
        have H1 : ((bit_Known.f a0).bind fun t199 => (if t199 = true then ((bit_Leq.f a0 a1).bind fun t200 => ((bit_Same.f a0 a1).bind fun t201 => (if (t200 == t201) = true then ((netlablaw01_awake.f kj3).bind fun t202 => (some t202)) else (some false)))) else ((netlablaw01_awake.f kj3).bind fun t203 => (some t203)))) = some r := by rw [if_neg (show ¬ (false = true) by decide)] at H; exact H
        clear H
        have H := H1
        clear H1
        replace H := Option.bind_eq_some_iff.mp H
        obtain ⟨t199, A180, H⟩ := H
        replace H : (if t199 = true then ((bit_Leq.f a0 a1).bind fun t200 => ((bit_Same.f a0 a1).bind fun t201 => (if (t200 == t201) = true then ((netlablaw01_awake.f kj3).bind fun t202 => (some t202)) else (some false)))) else ((netlablaw01_awake.f kj3).bind fun t203 => (some t203))) = some r := H
        have A18 := Aside0.mk A180
        clear A180
        by_cases c19 : t199 = true
        · subst c19
          have H1 : ((bit_Leq.f a0 a1).bind fun t200 => ((bit_Same.f a0 a1).bind fun t201 => (if (t200 == t201) = true then ((netlablaw01_awake.f kj3).bind fun t202 => (some t202)) else (some false)))) = some r := by rw [if_pos rfl] at H; exact H
          clear H
          have H := H1
          clear H1
          replace H := Option.bind_eq_some_iff.mp H
          obtain ⟨t200, A200, H⟩ := H
          replace H : ((bit_Same.f a0 a1).bind fun t201 => (if (t200 == t201) = true then ((netlablaw01_awake.f kj3).bind fun t202 => (some t202)) else (some false))) = some r := H
          have A20 := Aside0.mk A200
          clear A200
          replace H := Option.bind_eq_some_iff.mp H
          obtain ⟨t201, A210, H⟩ := H
          replace H : (if (t200 == t201) = true then ((netlablaw01_awake.f kj3).bind fun t202 => (some t202)) else (some false)) = some r := H
          have A21 := Aside0.mk A210
          clear A210
          by_cases c22 : (t200 == t201) = true
          · rw [if_pos c22] at H
            have c22b0 : (t200 == t201) = true := c22
            (try (have c22b1 : decide (t200 = t201) = true := by simpa using c22))
            (try (have c22b2 : (t200 == t201) = true := by simpa using c22))
            clear c22
            replace H := Option.bind_eq_some_iff.mp H
            obtain ⟨t202, A230, H⟩ := H
            replace H : (some t202) = some r := H
            have A23 := Aside0.mk A230
            clear A230
            obtain rfl := Option.some.inj H
            go_wp2_with (first | (go_at_call 21; (with_reducible refine (bit_Known.calls a0 true _ A18.out).mono ?_); rintro e w' ⟨rfl, ⟨nd, rfl⟩⟩) | (go_at_call 11; (with_reducible refine (bit_Leq.calls a0 a1 t200 _ A20.out).mono ?_); rintro e w' ⟨rfl, ⟨nd, rfl⟩⟩) | (go_at_call 20; (with_reducible refine (bit_Same.calls a0 a1 t201 _ A21.out).mono ?_); rintro e w' ⟨rfl, ⟨nd, rfl⟩⟩) | (go_at_call 12; (with_reducible refine (netlablaw01_awake.calls kj3  t202 _ (by repeat (first | exact HG.out | apply Glob.drewN | apply Glob.drew)) A23.out).mono ?_); rintro e w' ⟨rfl, ⟨nd, rfl⟩⟩))
            go_ret
            exact ⟨by first | rfl | (simp; done) | (simp [*]; done), by repeat (first | exact Drawn0.refl _ | apply Drawn0.step)⟩
          · rw [if_neg c22] at H
            have c22b0 : (t200 == t201) = false := by simpa using c22
            (try (have c22b1 : decide (t200 = t201) = false := by simpa using c22))
            (try (have c22b2 : (t200 == t201) = false := by simpa using c22))
            (try (have c22b3 : ¬ (t200 = t201) := by simpa using c22))
            clear c22
            obtain rfl := Option.some.inj H
            go_wp2_with (first | (go_at_call 21; (with_reducible refine (bit_Known.calls a0 true _ A18.out).mono ?_); rintro e w' ⟨rfl, ⟨nd, rfl⟩⟩) | (go_at_call 11; (with_reducible refine (bit_Leq.calls a0 a1 t200 _ A20.out).mono ?_); rintro e w' ⟨rfl, ⟨nd, rfl⟩⟩) | (go_at_call 20; (with_reducible refine (bit_Same.calls a0 a1 t201 _ A21.out).mono ?_); rintro e w' ⟨rfl, ⟨nd, rfl⟩⟩))
            go_ret
            exact ⟨by first | rfl | (simp; done) | (simp [*]; done), by repeat (first | exact Drawn0.refl _ | apply Drawn0.step)⟩
        · replace c19 := Bool.eq_false_iff.mpr c19
          subst c19
          have H1 : ((netlablaw01_awake.f kj3).bind fun t203 => (some t203)) = some r := by rw [if_neg (show ¬ (false = true) by decide)] at H; exact H
          clear H
          have H := H1
          clear H1
          replace H := Option.bind_eq_some_iff.mp H
          obtain ⟨t203, A240, H⟩ := H
          replace H : (some t203) = some r := H
          have A24 := Aside0.mk A240
          clear A240
          obtain rfl := Option.some.inj H
          go_wp2_with (first | (go_at_call 21; (with_reducible refine (bit_Known.calls a0 false _ A18.out).mono ?_); rintro e w' ⟨rfl, ⟨nd, rfl⟩⟩) | (go_at_call 12; (with_reducible refine (netlablaw01_awake.calls kj3  t203 _ (by repeat (first | exact HG.out | apply Glob.drewN | apply Glob.drew)) A24.out).mono ?_); rintro e w' ⟨rfl, ⟨nd, rfl⟩⟩))
          go_ret
          exact ⟨by first | rfl | (simp; done) | (simp [*]; done), by repeat (first | exact Drawn0.refl _ | apply Drawn0.step)⟩

/-! ### netlabref01_Known: function 23 -/
def netlabref01_Known.f (a0 : Int) : Option (Bool) := if a0 = 0 then (some true) else (some (a0 == 1))
set_option maxHeartbeats 8000000 in
set_option maxRecDepth 100000 in
theorem netlabref01_Known.calls (a0 : Int) (r : Bool) (w : World) (h : netlabref01_Known.f a0 = some r) :
    Calls Tryd.prog 23 #[.int .u8 a0] w fun e w' => e = .returned (.bool r) ∧ Drawn0 w w' := by
  have H : (if a0 = 0 then (some true) else (some (a0 == 1))) = some r := h
  clear h
  by_cases c2 : a0 = 0
  · rw [if_pos c2] at H
    have c2b0 : (a0 == 0) = true := beq_iff_eq.mpr c2
    have c2b1 : (a0 != 0) = false := bne_eq_false_iff_eq.mpr c2
    clear c2
    obtain rfl := Option.some.inj H
    go_enter Tryd.func23, Tryd.ntmps23
    go_wp2
    go_ret
    exact ⟨by first | rfl | (simp; done) | (simp [*]; done), by repeat (first | exact Drawn0.refl _ | apply Drawn0.step)⟩
  · rw [if_neg c2] at H
    have c2b0 : (a0 == 0) = false := beq_eq_false_iff_ne.mpr c2
    have c2b1 : (a0 != 0) = true := bne_iff_ne.mpr c2
    obtain rfl := Option.some.inj H
    go_enter Tryd.func23, Tryd.ntmps23
    go_wp2
    go_ret
    exact ⟨by first | rfl | (simp; done) | (simp [*]; done), by repeat (first | exact Drawn0.refl _ | apply Drawn0.step)⟩

/-! ### netlabref01_Not: function 24 -/
def netlabref01_Not.f (a0 : Int) : Option (Int) := if a0 = 0 then (some 1) else (if a0 = 1 then (some 0) else (some 2))
set_option maxHeartbeats 8000000 in
set_option maxRecDepth 100000 in
theorem netlabref01_Not.calls (a0 : Int) (r : Int) (w : World) (h : netlabref01_Not.f a0 = some r) :
    Calls Tryd.prog 24 #[.int .u8 a0] w fun e w' => e = .returned (.int .u8 r) ∧ Drawn0 w w' := by
  have H : (if a0 = 0 then (some 1) else (if a0 = 1 then (some 0) else (some 2))) = some r := h
  clear h
  by_cases c2 : a0 = 0
  · rw [if_pos c2] at H
    have c2b0 : (a0 == 0) = true := beq_iff_eq.mpr c2
    have c2b1 : (a0 != 0) = false := bne_eq_false_iff_eq.mpr c2
    clear c2
    obtain rfl := Option.some.inj H
    go_enter Tryd.func24, Tryd.ntmps24
    go_wp2
    go_ret
    exact ⟨by first | rfl | (simp; done) | (simp [*]; done), by repeat (first | exact Drawn0.refl _ | apply Drawn0.step)⟩
  · rw [if_neg c2] at H
    have c2b0 : (a0 == 0) = false := beq_eq_false_iff_ne.mpr c2
    have c2b1 : (a0 != 0) = true := bne_iff_ne.mpr c2
    by_cases c3 : a0 = 1
    · rw [if_pos c3] at H
      have c3b0 : (a0 == 1) = true := beq_iff_eq.mpr c3
      have c3b1 : (a0 != 1) = false := bne_eq_false_iff_eq.mpr c3
      clear c3
      obtain rfl := Option.some.inj H
      go_enter Tryd.func24, Tryd.ntmps24
      go_wp2
      go_ret
      exact ⟨by first | rfl | (simp; done) | (simp [*]; done), by repeat (first | exact Drawn0.refl _ | apply Drawn0.step)⟩
    · rw [if_neg c3] at H
      have c3b0 : (a0 == 1) = false := beq_eq_false_iff_ne.mpr c3
      have c3b1 : (a0 != 1) = true := bne_iff_ne.mpr c3
      obtain rfl := Option.some.inj H
      go_enter Tryd.func24, Tryd.ntmps24
      go_wp2
      go_ret
      exact ⟨by first | rfl | (simp; done) | (simp [*]; done), by repeat (first | exact Drawn0.refl _ | apply Drawn0.step)⟩

/-! ### netlabref01_Buf: function 25 -/
def netlabref01_Buf.f (a0 : Int) : Option (Int) := (netlabref01_Known.f a0).bind fun t204 => (if t204 = true then (some a0) else (some 2))
set_option maxHeartbeats 8000000 in
set_option maxRecDepth 100000 in
theorem netlabref01_Buf.calls (a0 : Int) (r : Int) (w : World) (h : netlabref01_Buf.f a0 = some r) :
    Calls Tryd.prog 25 #[.int .u8 a0] w fun e w' => e = .returned (.int .u8 r) ∧ Drawn0 w w' := by
  have H : ((netlabref01_Known.f a0).bind fun t204 => (if t204 = true then (some a0) else (some 2))) = some r := h
  clear h
  replace H := Option.bind_eq_some_iff.mp H
  obtain ⟨t204, A20, H⟩ := H
  replace H : (if t204 = true then (some a0) else (some 2)) = some r := H
  have A2 := Aside0.mk A20
  clear A20
  by_cases c3 : t204 = true
  · subst c3
    have H1 : (some a0) = some r := by rw [if_pos rfl] at H; exact H
    clear H
    have H := H1
    clear H1
    obtain rfl := Option.some.inj H
    go_enter Tryd.func25, Tryd.ntmps25
    go_wp2_with (first | ((with_reducible refine gate_callee (f := 23) rfl ?_); refine goesL_ (some 4) rfl rfl Tryd.func23 (by kernel_rfl) rfl #[.int .u8 a0] rfl (by (try simp only [List.map_toArray, List.map_cons, List.map_nil]); first | done | rfl | (simp only [List.length_drop, List.length_take]; rfl)) ?_; (with_reducible refine (netlabref01_Known.calls a0 true _ A2.out).mono ?_); rintro e w' ⟨rfl, ⟨nd, rfl⟩⟩; refine ⟨_, rfl, ?_⟩))
    go_ret
    exact ⟨by first | rfl | (simp; done) | (simp [*]; done), by repeat (first | exact Drawn0.refl _ | apply Drawn0.step)⟩
  · replace c3 := Bool.eq_false_iff.mpr c3
    subst c3
    have H1 : (some 2) = some r := by rw [if_neg (show ¬ (false = true) by decide)] at H; exact H
    clear H
    have H := H1
    clear H1
    obtain rfl := Option.some.inj H
    go_enter Tryd.func25, Tryd.ntmps25
    go_wp2_with (first | ((with_reducible refine gate_callee (f := 23) rfl ?_); refine goesL_ (some 4) rfl rfl Tryd.func23 (by kernel_rfl) rfl #[.int .u8 a0] rfl (by (try simp only [List.map_toArray, List.map_cons, List.map_nil]); first | done | rfl | (simp only [List.length_drop, List.length_take]; rfl)) ?_; (with_reducible refine (netlabref01_Known.calls a0 false _ A2.out).mono ?_); rintro e w' ⟨rfl, ⟨nd, rfl⟩⟩; refine ⟨_, rfl, ?_⟩))
    go_ret
    exact ⟨by first | rfl | (simp; done) | (simp [*]; done), by repeat (first | exact Drawn0.refl _ | apply Drawn0.step)⟩

/-! ### bit_Char: function 26 -/
def bit_Char.f (a0 : Int) : Option (Int) := (bit_norm.f a0).bind fun t205 => (if 0 ≤ t205 then (if t205 < 4 then (some (bt (⟨#[48, 49, 120, 122]⟩ : ByteArray) t205)) else (none)) else (none))
set_option maxHeartbeats 8000000 in
set_option maxRecDepth 100000 in
theorem bit_Char.calls (a0 : Int) (r : Int) (w : World) (h : bit_Char.f a0 = some r) :
    Calls Tryd.prog 26 #[.int .u8 a0] w fun e w' => e = .returned (.int .u8 r) ∧ Drawn0 w w' := by
  have H : ((bit_norm.f a0).bind fun t205 => (if 0 ≤ t205 then (if t205 < 4 then (some (bt (⟨#[48, 49, 120, 122]⟩ : ByteArray) t205)) else (none)) else (none))) = some r := h
  clear h
  replace H := Option.bind_eq_some_iff.mp H
  obtain ⟨t205, A20, H⟩ := H
  replace H : (if 0 ≤ t205 then (if t205 < 4 then (some (bt (⟨#[48, 49, 120, 122]⟩ : ByteArray) t205)) else (none)) else (none)) = some r := H
  have A2 := Aside0.mk A20
  clear A20
  by_cases c3 : 0 ≤ t205
  · rw [if_pos c3] at H
    have c3b0 : decide (0 ≤ t205) = true := decide_eq_true c3
    clear c3
    by_cases c4 : t205 < 4
    · rw [if_pos c4] at H
      have c4b0 : decide (t205 < 4) = true := decide_eq_true c4
      clear c4
      obtain rfl := Option.some.inj H
      go_enter Tryd.func26, Tryd.ntmps26
      go_wp2_with (first | ((with_reducible refine gate_callee (f := 39) rfl ?_); refine goesL_ (some 4) rfl rfl Tryd.func39 (by kernel_rfl) rfl #[.int .u8 a0] rfl (by (try simp only [List.map_toArray, List.map_cons, List.map_nil]); first | done | rfl | (simp only [List.length_drop, List.length_take]; rfl)) ?_; (with_reducible refine (bit_norm.calls a0 t205 _ A2.out).mono ?_); rintro e w' ⟨rfl, ⟨nd, rfl⟩⟩; refine ⟨_, rfl, ?_⟩; have p5 : 0 ≤ (t205 : Int) := of_decide_eq_true (by first | (with_reducible assumption) | assumption); have q5 : t205 < (4 : Int) := of_decide_eq_true (by first | (with_reducible assumption) | assumption); have hx5 := bt_at (⟨#[48, 49, 120, 122]⟩ : ByteArray) t205; replace p5 := eq_true p5; replace q5 := eq_true q5))
      go_ret
      exact ⟨by first | rfl | (simp; done) | (simp [*]; done), by repeat (first | exact Drawn0.refl _ | apply Drawn0.step)⟩
    · rw [if_neg c4] at H
      exact absurd H (by simp)
  · rw [if_neg c3] at H
    exact absurd H (by simp)

/-! ### netlabref01_Norm: function 41 -/
def netlabref01_Norm.f (a0 : Int) : Option (Int) := if a0 > 3 then (some 2) else (some a0)
set_option maxHeartbeats 8000000 in
set_option maxRecDepth 100000 in
theorem netlabref01_Norm.calls (a0 : Int) (r : Int) (w : World) (h : netlabref01_Norm.f a0 = some r) :
    Calls Tryd.prog 41 #[.int .u8 a0] w fun e w' => e = .returned (.int .u8 r) ∧ Drawn0 w w' := by
  have H : (if a0 > 3 then (some 2) else (some a0)) = some r := h
  clear h
  by_cases c2 : a0 > 3
  · rw [if_pos c2] at H
    have c2b0 : decide (3 < a0) = true := decide_eq_true c2
    clear c2
    obtain rfl := Option.some.inj H
    go_enter Tryd.func41, Tryd.ntmps41
    go_wp2
    go_ret
    exact ⟨by first | rfl | (simp; done) | (simp [*]; done), by repeat (first | exact Drawn0.refl _ | apply Drawn0.step)⟩
  · rw [if_neg c2] at H
    have c2b0 : decide (3 < a0) = false := decide_eq_false c2
    clear c2
    obtain rfl := Option.some.inj H
    go_enter Tryd.func41, Tryd.ntmps41
    go_wp2
    go_ret
    exact ⟨by first | rfl | (simp; done) | (simp [*]; done), by repeat (first | exact Drawn0.refl _ | apply Drawn0.step)⟩

/-! ### netlabref01_Char: function 27 -/
def netlabref01_Char.f (a0 : Int) : Option (Int) := (netlabref01_Norm.f a0).bind fun t206 => (if 0 ≤ t206 then (if t206 < 4 then (some (bt (⟨#[48, 49, 120, 122]⟩ : ByteArray) t206)) else (none)) else (none))
set_option maxHeartbeats 8000000 in
set_option maxRecDepth 100000 in
theorem netlabref01_Char.calls (a0 : Int) (r : Int) (w : World) (h : netlabref01_Char.f a0 = some r) :
    Calls Tryd.prog 27 #[.int .u8 a0] w fun e w' => e = .returned (.int .u8 r) ∧ Drawn0 w w' := by
  have H : ((netlabref01_Norm.f a0).bind fun t206 => (if 0 ≤ t206 then (if t206 < 4 then (some (bt (⟨#[48, 49, 120, 122]⟩ : ByteArray) t206)) else (none)) else (none))) = some r := h
  clear h
  replace H := Option.bind_eq_some_iff.mp H
  obtain ⟨t206, A20, H⟩ := H
  replace H : (if 0 ≤ t206 then (if t206 < 4 then (some (bt (⟨#[48, 49, 120, 122]⟩ : ByteArray) t206)) else (none)) else (none)) = some r := H
  have A2 := Aside0.mk A20
  clear A20
  by_cases c3 : 0 ≤ t206
  · rw [if_pos c3] at H
    have c3b0 : decide (0 ≤ t206) = true := decide_eq_true c3
    clear c3
    by_cases c4 : t206 < 4
    · rw [if_pos c4] at H
      have c4b0 : decide (t206 < 4) = true := decide_eq_true c4
      clear c4
      obtain rfl := Option.some.inj H
      go_enter Tryd.func27, Tryd.ntmps27
      go_wp2_with (first | ((with_reducible refine gate_callee (f := 41) rfl ?_); refine goesL_ (some 4) rfl rfl Tryd.func41 (by kernel_rfl) rfl #[.int .u8 a0] rfl (by (try simp only [List.map_toArray, List.map_cons, List.map_nil]); first | done | rfl | (simp only [List.length_drop, List.length_take]; rfl)) ?_; (with_reducible refine (netlabref01_Norm.calls a0 t206 _ A2.out).mono ?_); rintro e w' ⟨rfl, ⟨nd, rfl⟩⟩; refine ⟨_, rfl, ?_⟩; have p5 : 0 ≤ (t206 : Int) := of_decide_eq_true (by first | (with_reducible assumption) | assumption); have q5 : t206 < (4 : Int) := of_decide_eq_true (by first | (with_reducible assumption) | assumption); have hx5 := bt_at (⟨#[48, 49, 120, 122]⟩ : ByteArray) t206; replace p5 := eq_true p5; replace q5 := eq_true q5))
      go_ret
      exact ⟨by first | rfl | (simp; done) | (simp [*]; done), by repeat (first | exact Drawn0.refl _ | apply Drawn0.step)⟩
    · rw [if_neg c4] at H
      exact absurd H (by simp)
  · rw [if_neg c3] at H
    exact absurd H (by simp)

end Go.Proofs.YteioheookffjiaaDoor.F
