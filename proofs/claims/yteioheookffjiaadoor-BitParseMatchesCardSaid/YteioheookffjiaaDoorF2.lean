-- Written by a program of this session (wip/tools/drive.py) over the kit's print.py.
import Derived.Test.YteioheookffjiaaDoorF0
import Derived.Test.YteioheookffjiaaDoorF1
namespace Go.Proofs.YteioheookffjiaaDoor.F
open Go.RowKit Go.Proofs.YteioheookffjiaaDoorW.PrintWords Go.Proofs.YteioheookffjiaaDoorW.PrintLast Go.Proofs.YteioheookffjiaaDoorW.PrintMore
attribute [local go_sem] max2_int min2_int max_two min_two max_three min_three max_four min_four   -- for this text's walks alone
set_option linter.unusedVariables false
set_option linter.unusedSimpArgs false

/-! ### bit_Parse: function 35 -/
mutual
def bit_Parse.j0 : Nat → Int → Int → Bool → Option (Int × Bool)
  | 0, _, _, _ => none
  | k + 1, x0, x4, x5 => if x5 = true then (some ((x0 - 48) % 256, true)) else (if x4 = 120 then (bit_Parse.j1 k x4 (x4 == 120)) else (bit_Parse.j1 k x4 (x4 == 88)))
def bit_Parse.j1 : Nat → Int → Bool → Option (Int × Bool)
  | 0, _, _ => none
  | k + 1, x4, x10 => if x10 = true then (some (2, true)) else (if x4 = 122 then (some (3, true)) else (if x4 = 90 then (some (3, true)) else (if x4 = 63 then (some (3, true)) else (some (0, false)))))
end
def bit_Parse.f (k : Nat) (a0 : Int) : Option (Int × Bool) := if a0 = 48 then (bit_Parse.j0 k a0 a0 (a0 == 48)) else (bit_Parse.j0 k a0 a0 (a0 == 49))
theorem bit_Parse.mono_l : ∀ k, (∀ y0 y1 y2, LeO (bit_Parse.j0 k y0 y1 y2) (bit_Parse.j0 (k + 1) y0 y1 y2)) ∧ (∀ y0 y1, LeO (bit_Parse.j1 k y0 y1) (bit_Parse.j1 (k + 1) y0 y1))
  | 0 => ⟨fun _ _ _ r h => by simp [bit_Parse.j0] at h, fun _ _ r h => by simp [bit_Parse.j1] at h⟩
  | k + 1 => by
    obtain ⟨ih0, ih1⟩ := bit_Parse.mono_l k
    refine ⟨?_, ?_⟩
    · intro y0 y1 y2
      unfold bit_Parse.j0
      repeat' first
      | (with_reducible exact ih0 _ _ _)
      | (with_reducible exact ih1 _ _)
      | (with_reducible exact LeO.refl _)
      | (with_reducible exact LeO.none _)
      | (with_reducible refine LeO.ite ?_ ?_)
      | (with_reducible refine LeO.bind ?_ (fun _ => ?_))
      | exact ih0 _ _ _
      | exact ih1 _ _
      | exact LeO.none _
      | refine LeO.ite ?_ ?_
      | refine LeO.bind ?_ (fun _ => ?_)
    · intro y0 y1
      unfold bit_Parse.j1
      repeat' first
      | (with_reducible exact ih0 _ _ _)
      | (with_reducible exact ih1 _ _)
      | (with_reducible exact LeO.refl _)
      | (with_reducible exact LeO.none _)
      | (with_reducible refine LeO.ite ?_ ?_)
      | (with_reducible refine LeO.bind ?_ (fun _ => ?_))
      | exact ih0 _ _ _
      | exact ih1 _ _
      | exact LeO.none _
      | refine LeO.ite ?_ ?_
      | refine LeO.bind ?_ (fun _ => ?_)
theorem bit_Parse.mono : ∀ a0 k, LeO (bit_Parse.f k a0) (bit_Parse.f (k + 1) a0) := by
  intro a0 k
  obtain ⟨ih0, ih1⟩ := bit_Parse.mono_l k
  unfold bit_Parse.f
  repeat' first
      | (with_reducible exact ih0 _ _ _)
      | (with_reducible exact ih1 _ _)
      | (with_reducible exact LeO.refl _)
      | (with_reducible exact LeO.none _)
      | (with_reducible refine LeO.ite ?_ ?_)
      | (with_reducible refine LeO.bind ?_ (fun _ => ?_))
      | exact ih0 _ _ _
      | exact ih1 _ _
      | exact LeO.none _
      | refine LeO.ite ?_ ?_
      | refine LeO.bind ?_ (fun _ => ?_)
set_option maxHeartbeats 8000000 in
set_option maxRecDepth 100000 in
theorem bit_Parse.calls (k : Nat) (a0 : Int) (r1 : Int) (r2 : Bool) (w : World) (h : bit_Parse.f k a0 = some (r1, r2)) :
    Calls Tryd.prog 35 #[.int .u8 a0] w fun e w' => e = .returned (.tuple #[.int .u8 r1, .bool r2]) ∧ Drawn0 w w' := by
  have H : (if a0 = 48 then (bit_Parse.j0 k a0 a0 (a0 == 48)) else (bit_Parse.j0 k a0 a0 (a0 == 49))) = some (r1, r2) := h
  clear h
  have HC2 := Aside0.mk H
  clear H
  go_enter Tryd.func35, Tryd.ntmps35
  go_upto_if 5 with (fail)
  go_cut [5] (fun v5 wc => ∃ (kq : Nat) (x5_1 : Bool), v5 = .bool x5_1 ∧ Aside0 (bit_Parse.j0 kq a0 a0 x5_1 = some (r1, r2)) ∧ Aside0 (kq ≤ k) ∧ Drawn0 w wc)
  case first =>
    have H := HC2.out
    clear HC2
    by_cases c3 : a0 = 48
    · rw [if_pos c3] at H
      have c3b0 : (a0 == 48) = true := beq_iff_eq.mpr c3
      have c3b1 : (a0 != 48) = false := bne_eq_false_iff_eq.mpr c3
      clear c3
      (first | rw [c3b0] | (simp only [i64_w, i32_w]; rw [c3b0]) | skip)
      have H' := Aside0.mk H
      clear H
      go_wp2
      go_meet
      case rel => exact ⟨_, ((a0 == 48)), (by first | rfl | (simp; done) | (simp [*]; done)), H', ⟨by first | omega | exact Nat.le_refl _⟩, by repeat (first | exact Drawn0.refl _ | apply Drawn0.step)⟩
    · rw [if_neg c3] at H
      have c3b0 : (a0 == 48) = false := beq_eq_false_iff_ne.mpr c3
      have c3b1 : (a0 != 48) = true := bne_iff_ne.mpr c3
      (first | rw [c3b0] | (simp only [i64_w, i32_w]; rw [c3b0]) | skip)
      have H' := Aside0.mk H
      clear H
      go_wp2
      go_meet
      case rel => exact ⟨_, ((a0 == 49)), (by first | rfl | (simp; done) | (simp [*]; done)), H', ⟨by first | omega | exact Nat.le_refl _⟩, by repeat (first | exact Drawn0.refl _ | apply Drawn0.step)⟩
  case rest =>
    clear HC2
    try clear p2
    try clear c3
    try clear c3b0
    try clear c3b1
    obtain ⟨kq, x5_1, rfl, HA, HJ1, ⟨mc1, rfl⟩⟩ := hcut
    cases kq with
    | zero => exact absurd HA.out (by simp [bit_Parse.j0])
    | succ kj1 =>
      have H := HA.out
      clear HA
      simp only [bit_Parse.j0] at H
      by_cases c4 : x5_1 = true
      · subst c4
        have H1 : (some ((a0 - 48) % 256, true)) = some (r1, r2) := by rw [if_pos rfl] at H; exact H
        clear H
        have H := H1
        clear H1
        simp only [Option.some.injEq, Prod.mk.injEq] at H
        obtain ⟨rfl, rfl⟩ := H
        go_wp2
        go_ret2
        exact ⟨by first | rfl | (simp; done) | (simp [*]; done), by repeat (first | exact Drawn0.refl _ | apply Drawn0.step)⟩
      · replace c4 := Bool.eq_false_iff.mpr c4
        subst c4
        have H1 : (if a0 = 120 then (bit_Parse.j1 kj1 a0 (a0 == 120)) else (bit_Parse.j1 kj1 a0 (a0 == 88))) = some (r1, r2) := by rw [if_neg (show ¬ (false = true) by decide)] at H; exact H
        clear H
        have H := H1
        clear H1
        have HC5 := Aside0.mk H
        clear H
        go_upto_if 10 with (fail)
        go_cut [10] (fun v10 wc => ∃ (kq : Nat) (x10_4 : Bool), v10 = .bool x10_4 ∧ Aside0 (bit_Parse.j1 kq a0 x10_4 = some (r1, r2)) ∧ Aside0 (kq ≤ kj1) ∧ Drawn0 w wc)
        case first =>
          have H := HC5.out
          clear HC5
          by_cases c6 : a0 = 120
          · rw [if_pos c6] at H
            have c6b0 : (a0 == 120) = true := beq_iff_eq.mpr c6
            have c6b1 : (a0 != 120) = false := bne_eq_false_iff_eq.mpr c6
            clear c6
            (first | rw [c6b0] | (simp only [i64_w, i32_w]; rw [c6b0]) | skip)
            have H' := Aside0.mk H
            clear H
            go_wp2
            go_meet
            case rel => exact ⟨_, ((a0 == 120)), (by first | rfl | (simp; done) | (simp [*]; done)), H', ⟨by have := HJ1.out; first | omega | exact Nat.le_refl _⟩, by repeat (first | exact Drawn0.refl _ | apply Drawn0.step)⟩
          · rw [if_neg c6] at H
            have c6b0 : (a0 == 120) = false := beq_eq_false_iff_ne.mpr c6
            have c6b1 : (a0 != 120) = true := bne_iff_ne.mpr c6
            (first | rw [c6b0] | (simp only [i64_w, i32_w]; rw [c6b0]) | skip)
            have H' := Aside0.mk H
            clear H
            go_wp2
            go_meet
            case rel => exact ⟨_, ((a0 == 88)), (by first | rfl | (simp; done) | (simp [*]; done)), H', ⟨by have := HJ1.out; first | omega | exact Nat.le_refl _⟩, by repeat (first | exact Drawn0.refl _ | apply Drawn0.step)⟩
        case rest =>
          clear HC5
          try clear c1
          try clear p2
          try clear c3
          try clear c3b0
          try clear c3b1
          try clear c4
          try clear c6
          try clear c6b0
          try clear c6b1
          try clear p2
          obtain ⟨kq, x10_4, rfl, HA, HJ4, ⟨mc4, rfl⟩⟩ := hcut
          cases kq with
          | zero => exact absurd HA.out (by simp [bit_Parse.j1])
          | succ kj4 =>
            have H := HA.out
            clear HA
            simp only [bit_Parse.j1] at H
            by_cases c7 : x10_4 = true
            · subst c7
              have H1 : (some (2, true)) = some (r1, r2) := by rw [if_pos rfl] at H; exact H
              clear H
              have H := H1
              clear H1
              simp only [Option.some.injEq, Prod.mk.injEq] at H
              obtain ⟨rfl, rfl⟩ := H
              go_wp2
              go_ret2
              exact ⟨by first | rfl | (simp; done) | (simp [*]; done), by repeat (first | exact Drawn0.refl _ | apply Drawn0.step)⟩
            · replace c7 := Bool.eq_false_iff.mpr c7
              subst c7
              have H1 : (if a0 = 122 then (some (3, true)) else (if a0 = 90 then (some (3, true)) else (if a0 = 63 then (some (3, true)) else (some (0, false))))) = some (r1, r2) := by rw [if_neg (show ¬ (false = true) by decide)] at H; exact H
              clear H
              have H := H1
              clear H1
              by_cases c8 : a0 = 122
              · rw [if_pos c8] at H
                have c8b0 : (a0 == 122) = true := beq_iff_eq.mpr c8
                have c8b1 : (a0 != 122) = false := bne_eq_false_iff_eq.mpr c8
                clear c8
                simp only [Option.some.injEq, Prod.mk.injEq] at H
                obtain ⟨rfl, rfl⟩ := H
                go_wp2
                go_ret2
                exact ⟨by first | rfl | (simp; done) | (simp [*]; done), by repeat (first | exact Drawn0.refl _ | apply Drawn0.step)⟩
              · rw [if_neg c8] at H
                have c8b0 : (a0 == 122) = false := beq_eq_false_iff_ne.mpr c8
                have c8b1 : (a0 != 122) = true := bne_iff_ne.mpr c8
                by_cases c9 : a0 = 90
                · rw [if_pos c9] at H
                  have c9b0 : (a0 == 90) = true := beq_iff_eq.mpr c9
                  have c9b1 : (a0 != 90) = false := bne_eq_false_iff_eq.mpr c9
                  clear c9
                  simp only [Option.some.injEq, Prod.mk.injEq] at H
                  obtain ⟨rfl, rfl⟩ := H
                  go_wp2
                  go_ret2
                  exact ⟨by first | rfl | (simp; done) | (simp [*]; done), by repeat (first | exact Drawn0.refl _ | apply Drawn0.step)⟩
                · rw [if_neg c9] at H
                  have c9b0 : (a0 == 90) = false := beq_eq_false_iff_ne.mpr c9
                  have c9b1 : (a0 != 90) = true := bne_iff_ne.mpr c9
                  by_cases c10 : a0 = 63
                  · rw [if_pos c10] at H
                    have c10b0 : (a0 == 63) = true := beq_iff_eq.mpr c10
                    have c10b1 : (a0 != 63) = false := bne_eq_false_iff_eq.mpr c10
                    clear c10
                    simp only [Option.some.injEq, Prod.mk.injEq] at H
                    obtain ⟨rfl, rfl⟩ := H
                    go_wp2
                    go_ret2
                    exact ⟨by first | rfl | (simp; done) | (simp [*]; done), by repeat (first | exact Drawn0.refl _ | apply Drawn0.step)⟩
                  · rw [if_neg c10] at H
                    have c10b0 : (a0 == 63) = false := beq_eq_false_iff_ne.mpr c10
                    have c10b1 : (a0 != 63) = true := bne_iff_ne.mpr c10
                    simp only [Option.some.injEq, Prod.mk.injEq] at H
                    obtain ⟨rfl, rfl⟩ := H
                    go_wp2
                    go_ret2
                    exact ⟨by first | rfl | (simp; done) | (simp [*]; done), by repeat (first | exact Drawn0.refl _ | apply Drawn0.step)⟩

/-! ### netlablaw01_awake: function 12 -/
def netlablaw01_awake.f (k : Nat)  : Option (Bool) := (bit_Parse.f k 63).bind fun bt116 => ((bit_And.f 0 2).bind fun t118 => (if t118 = 0 then ((bit_And.f 1 3).bind fun t119 => (if t119 = 2 then ((bit_Or.f 1 2).bind fun t120 => (if t120 = 1 then ((bit_Xor.f 2 2).bind fun t121 => (if t121 = 2 then ((bit_Mux.f 2 1 1).bind fun t122 => (if t122 = 1 then ((bit_Mux.f 2 1 0).bind fun t123 => (if t123 = 2 then ((bit_Mux.f 1 3 0).bind fun t124 => (if t124 = 2 then ((bit_Leq.f 2 0).bind fun t125 => (if t125 = true then ((bit_Leq.f 2 3).bind fun t126 => (if t126 = true then (some false) else (if bt116.2 = true then (some (bt116.1 == 3)) else (some false)))) else (some false))) else (some false))) else (some false))) else (some false))) else (some false))) else (some false))) else (some false))) else (some false)))
theorem netlablaw01_awake.mono : ∀ k, LeO (netlablaw01_awake.f k ) (netlablaw01_awake.f (k + 1) ) := by
  intro  k
  unfold netlablaw01_awake.f
  repeat' first
      | (with_reducible exact bit_Parse.mono _ _)
      | (with_reducible exact LeO.refl _)
      | (with_reducible exact LeO.none _)
      | (with_reducible refine LeO.ite ?_ ?_)
      | (with_reducible refine LeO.bind ?_ (fun _ => ?_))
      | exact bit_Parse.mono _ _
      | exact LeO.none _
      | refine LeO.ite ?_ ?_
      | refine LeO.bind ?_ (fun _ => ?_)
set_option maxHeartbeats 8000000 in
set_option maxRecDepth 100000 in
theorem netlablaw01_awake.calls (k : Nat)  (r : Bool) (w : World) (hG : Glob w) (h : netlablaw01_awake.f k  = some r) :
    Calls Tryd.prog 12 #[] w fun e w' => e = .returned (.bool r) ∧ Drawn0 w w' := by
  have HG := Aside0.mk hG
  clear hG
  have H : ((bit_Parse.f k 63).bind fun bt116 => ((bit_And.f 0 2).bind fun t118 => (if t118 = 0 then ((bit_And.f 1 3).bind fun t119 => (if t119 = 2 then ((bit_Or.f 1 2).bind fun t120 => (if t120 = 1 then ((bit_Xor.f 2 2).bind fun t121 => (if t121 = 2 then ((bit_Mux.f 2 1 1).bind fun t122 => (if t122 = 1 then ((bit_Mux.f 2 1 0).bind fun t123 => (if t123 = 2 then ((bit_Mux.f 1 3 0).bind fun t124 => (if t124 = 2 then ((bit_Leq.f 2 0).bind fun t125 => (if t125 = true then ((bit_Leq.f 2 3).bind fun t126 => (if t126 = true then (some false) else (if bt116.2 = true then (some (bt116.1 == 3)) else (some false)))) else (some false))) else (some false))) else (some false))) else (some false))) else (some false))) else (some false))) else (some false))) else (some false)))) = some r := h
  clear h
  replace H := Option.bind_eq_some_iff.mp H
  obtain ⟨⟨t116, t117⟩, A10, H⟩ := H
  replace H : ((bit_And.f 0 2).bind fun t118 => (if t118 = 0 then ((bit_And.f 1 3).bind fun t119 => (if t119 = 2 then ((bit_Or.f 1 2).bind fun t120 => (if t120 = 1 then ((bit_Xor.f 2 2).bind fun t121 => (if t121 = 2 then ((bit_Mux.f 2 1 1).bind fun t122 => (if t122 = 1 then ((bit_Mux.f 2 1 0).bind fun t123 => (if t123 = 2 then ((bit_Mux.f 1 3 0).bind fun t124 => (if t124 = 2 then ((bit_Leq.f 2 0).bind fun t125 => (if t125 = true then ((bit_Leq.f 2 3).bind fun t126 => (if t126 = true then (some false) else (if t117 = true then (some (t116 == 3)) else (some false)))) else (some false))) else (some false))) else (some false))) else (some false))) else (some false))) else (some false))) else (some false))) else (some false))) = some r := H
  have A1 := Aside0.mk A10
  clear A10
  replace H := Option.bind_eq_some_iff.mp H
  obtain ⟨t118, A20, H⟩ := H
  replace H : (if t118 = 0 then ((bit_And.f 1 3).bind fun t119 => (if t119 = 2 then ((bit_Or.f 1 2).bind fun t120 => (if t120 = 1 then ((bit_Xor.f 2 2).bind fun t121 => (if t121 = 2 then ((bit_Mux.f 2 1 1).bind fun t122 => (if t122 = 1 then ((bit_Mux.f 2 1 0).bind fun t123 => (if t123 = 2 then ((bit_Mux.f 1 3 0).bind fun t124 => (if t124 = 2 then ((bit_Leq.f 2 0).bind fun t125 => (if t125 = true then ((bit_Leq.f 2 3).bind fun t126 => (if t126 = true then (some false) else (if t117 = true then (some (t116 == 3)) else (some false)))) else (some false))) else (some false))) else (some false))) else (some false))) else (some false))) else (some false))) else (some false))) else (some false)) = some r := H
  have A2 := Aside0.mk A20
  clear A20
  by_cases c3 : t118 = 0
  · rw [if_pos c3] at H
    have c3b0 : (t118 == 0) = true := beq_iff_eq.mpr c3
    have c3b1 : (t118 != 0) = false := bne_eq_false_iff_eq.mpr c3
    clear c3
    replace H := Option.bind_eq_some_iff.mp H
    obtain ⟨t119, A40, H⟩ := H
    replace H : (if t119 = 2 then ((bit_Or.f 1 2).bind fun t120 => (if t120 = 1 then ((bit_Xor.f 2 2).bind fun t121 => (if t121 = 2 then ((bit_Mux.f 2 1 1).bind fun t122 => (if t122 = 1 then ((bit_Mux.f 2 1 0).bind fun t123 => (if t123 = 2 then ((bit_Mux.f 1 3 0).bind fun t124 => (if t124 = 2 then ((bit_Leq.f 2 0).bind fun t125 => (if t125 = true then ((bit_Leq.f 2 3).bind fun t126 => (if t126 = true then (some false) else (if t117 = true then (some (t116 == 3)) else (some false)))) else (some false))) else (some false))) else (some false))) else (some false))) else (some false))) else (some false))) else (some false)) = some r := H
    have A4 := Aside0.mk A40
    clear A40
    by_cases c5 : t119 = 2
    · rw [if_pos c5] at H
      have c5b0 : (t119 == 2) = true := beq_iff_eq.mpr c5
      have c5b1 : (t119 != 2) = false := bne_eq_false_iff_eq.mpr c5
      clear c5
      replace H := Option.bind_eq_some_iff.mp H
      obtain ⟨t120, A60, H⟩ := H
      replace H : (if t120 = 1 then ((bit_Xor.f 2 2).bind fun t121 => (if t121 = 2 then ((bit_Mux.f 2 1 1).bind fun t122 => (if t122 = 1 then ((bit_Mux.f 2 1 0).bind fun t123 => (if t123 = 2 then ((bit_Mux.f 1 3 0).bind fun t124 => (if t124 = 2 then ((bit_Leq.f 2 0).bind fun t125 => (if t125 = true then ((bit_Leq.f 2 3).bind fun t126 => (if t126 = true then (some false) else (if t117 = true then (some (t116 == 3)) else (some false)))) else (some false))) else (some false))) else (some false))) else (some false))) else (some false))) else (some false)) = some r := H
      have A6 := Aside0.mk A60
      clear A60
      by_cases c7 : t120 = 1
      · rw [if_pos c7] at H
        have c7b0 : (t120 == 1) = true := beq_iff_eq.mpr c7
        have c7b1 : (t120 != 1) = false := bne_eq_false_iff_eq.mpr c7
        clear c7
        replace H := Option.bind_eq_some_iff.mp H
        obtain ⟨t121, A80, H⟩ := H
        replace H : (if t121 = 2 then ((bit_Mux.f 2 1 1).bind fun t122 => (if t122 = 1 then ((bit_Mux.f 2 1 0).bind fun t123 => (if t123 = 2 then ((bit_Mux.f 1 3 0).bind fun t124 => (if t124 = 2 then ((bit_Leq.f 2 0).bind fun t125 => (if t125 = true then ((bit_Leq.f 2 3).bind fun t126 => (if t126 = true then (some false) else (if t117 = true then (some (t116 == 3)) else (some false)))) else (some false))) else (some false))) else (some false))) else (some false))) else (some false)) = some r := H
        have A8 := Aside0.mk A80
        clear A80
        by_cases c9 : t121 = 2
        · rw [if_pos c9] at H
          have c9b0 : (t121 == 2) = true := beq_iff_eq.mpr c9
          have c9b1 : (t121 != 2) = false := bne_eq_false_iff_eq.mpr c9
          clear c9
          replace H := Option.bind_eq_some_iff.mp H
          obtain ⟨t122, A100, H⟩ := H
          replace H : (if t122 = 1 then ((bit_Mux.f 2 1 0).bind fun t123 => (if t123 = 2 then ((bit_Mux.f 1 3 0).bind fun t124 => (if t124 = 2 then ((bit_Leq.f 2 0).bind fun t125 => (if t125 = true then ((bit_Leq.f 2 3).bind fun t126 => (if t126 = true then (some false) else (if t117 = true then (some (t116 == 3)) else (some false)))) else (some false))) else (some false))) else (some false))) else (some false)) = some r := H
          have A10 := Aside0.mk A100
          clear A100
          by_cases c11 : t122 = 1
          · rw [if_pos c11] at H
            have c11b0 : (t122 == 1) = true := beq_iff_eq.mpr c11
            have c11b1 : (t122 != 1) = false := bne_eq_false_iff_eq.mpr c11
            clear c11
            replace H := Option.bind_eq_some_iff.mp H
            obtain ⟨t123, A120, H⟩ := H
            replace H : (if t123 = 2 then ((bit_Mux.f 1 3 0).bind fun t124 => (if t124 = 2 then ((bit_Leq.f 2 0).bind fun t125 => (if t125 = true then ((bit_Leq.f 2 3).bind fun t126 => (if t126 = true then (some false) else (if t117 = true then (some (t116 == 3)) else (some false)))) else (some false))) else (some false))) else (some false)) = some r := H
            have A12 := Aside0.mk A120
            clear A120
            by_cases c13 : t123 = 2
            · rw [if_pos c13] at H
              have c13b0 : (t123 == 2) = true := beq_iff_eq.mpr c13
              have c13b1 : (t123 != 2) = false := bne_eq_false_iff_eq.mpr c13
              clear c13
              replace H := Option.bind_eq_some_iff.mp H
              obtain ⟨t124, A140, H⟩ := H
              replace H : (if t124 = 2 then ((bit_Leq.f 2 0).bind fun t125 => (if t125 = true then ((bit_Leq.f 2 3).bind fun t126 => (if t126 = true then (some false) else (if t117 = true then (some (t116 == 3)) else (some false)))) else (some false))) else (some false)) = some r := H
              have A14 := Aside0.mk A140
              clear A140
              by_cases c15 : t124 = 2
              · rw [if_pos c15] at H
                have c15b0 : (t124 == 2) = true := beq_iff_eq.mpr c15
                have c15b1 : (t124 != 2) = false := bne_eq_false_iff_eq.mpr c15
                clear c15
                replace H := Option.bind_eq_some_iff.mp H
                obtain ⟨t125, A160, H⟩ := H
                replace H : (if t125 = true then ((bit_Leq.f 2 3).bind fun t126 => (if t126 = true then (some false) else (if t117 = true then (some (t116 == 3)) else (some false)))) else (some false)) = some r := H
                have A16 := Aside0.mk A160
                clear A160
                by_cases c17 : t125 = true
                · subst c17
                  have H1 : ((bit_Leq.f 2 3).bind fun t126 => (if t126 = true then (some false) else (if t117 = true then (some (t116 == 3)) else (some false)))) = some r := by rw [if_pos rfl] at H; exact H
                  clear H
                  have H := H1
                  clear H1
                  replace H := Option.bind_eq_some_iff.mp H
                  obtain ⟨t126, A180, H⟩ := H
                  replace H : (if t126 = true then (some false) else (if t117 = true then (some (t116 == 3)) else (some false))) = some r := H
                  have A18 := Aside0.mk A180
                  clear A180
                  by_cases c19 : t126 = true
                  · subst c19
                    have H1 : (some false) = some r := by rw [if_pos rfl] at H; exact H
                    clear H
                    have H := H1
                    clear H1
                    obtain rfl := Option.some.inj H
                    go_enter Tryd.func12, Tryd.ntmps12
                    go_wp2_with (first | ((with_reducible refine gate_callee (f := 35) rfl ?_); refine goesL_ (some 4) rfl rfl Tryd.func35 (by kernel_rfl) rfl #[.int .u8 63] rfl (by (try simp only [List.map_toArray, List.map_cons, List.map_nil]); first | done | rfl | (simp only [List.length_drop, List.length_take]; rfl)) ?_; (with_reducible refine (bit_Parse.calls k 63 t116 t117 _ A1.out).mono ?_); rintro e w' ⟨rfl, ⟨nd, rfl⟩⟩; refine ⟨_, rfl, ?_⟩) | ((with_reducible refine gate_callee (f := 15) rfl ?_); refine goesL_ (some 7) rfl rfl Tryd.func15 (by kernel_rfl) rfl #[.int .u8 0, .int .u8 2] rfl (by (try simp only [List.map_toArray, List.map_cons, List.map_nil]); first | done | rfl | (simp only [List.length_drop, List.length_take]; rfl)) ?_; (with_reducible refine (bit_And.calls 0 2 t118 _ (by repeat (first | exact HG.out | apply Glob.drewN | apply Glob.drew)) A2.out).mono ?_); rintro e w' ⟨rfl, ⟨nd, rfl⟩⟩; refine ⟨_, rfl, ?_⟩) | (go_at_call 15; (with_reducible refine (bit_And.calls 1 3 t119 _ (by repeat (first | exact HG.out | apply Glob.drewN | apply Glob.drew)) A4.out).mono ?_); rintro e w' ⟨rfl, ⟨nd, rfl⟩⟩) | (go_at_call 16; (with_reducible refine (bit_Or.calls 1 2 t120 _ (by repeat (first | exact HG.out | apply Glob.drewN | apply Glob.drew)) A6.out).mono ?_); rintro e w' ⟨rfl, ⟨nd, rfl⟩⟩) | (go_at_call 17; (with_reducible refine (bit_Xor.calls 2 2 t121 _ (by repeat (first | exact HG.out | apply Glob.drewN | apply Glob.drew)) A8.out).mono ?_); rintro e w' ⟨rfl, ⟨nd, rfl⟩⟩) | (go_at_call 19; (with_reducible refine (bit_Mux.calls 2 1 1 t122 _ (by repeat (first | exact HG.out | apply Glob.drewN | apply Glob.drew)) A10.out).mono ?_); rintro e w' ⟨rfl, ⟨nd, rfl⟩⟩) | (go_at_call 19; (with_reducible refine (bit_Mux.calls 2 1 0 t123 _ (by repeat (first | exact HG.out | apply Glob.drewN | apply Glob.drew)) A12.out).mono ?_); rintro e w' ⟨rfl, ⟨nd, rfl⟩⟩) | (go_at_call 19; (with_reducible refine (bit_Mux.calls 1 3 0 t124 _ (by repeat (first | exact HG.out | apply Glob.drewN | apply Glob.drew)) A14.out).mono ?_); rintro e w' ⟨rfl, ⟨nd, rfl⟩⟩) | (go_at_call 11; (with_reducible refine (bit_Leq.calls 2 0 true _ A16.out).mono ?_); rintro e w' ⟨rfl, ⟨nd, rfl⟩⟩) | (go_at_call 11; (with_reducible refine (bit_Leq.calls 2 3 true _ A18.out).mono ?_); rintro e w' ⟨rfl, ⟨nd, rfl⟩⟩))
                    go_ret
                    exact ⟨by first | rfl | (simp; done) | (simp [*]; done), by repeat (first | exact Drawn0.refl _ | apply Drawn0.step)⟩
                  · replace c19 := Bool.eq_false_iff.mpr c19
                    subst c19
                    have H1 : (if t117 = true then (some (t116 == 3)) else (some false)) = some r := by rw [if_neg (show ¬ (false = true) by decide)] at H; exact H
                    clear H
                    have H := H1
                    clear H1
                    by_cases c20 : t117 = true
                    · subst c20
                      have H1 : (some (t116 == 3)) = some r := by rw [if_pos rfl] at H; exact H
                      clear H
                      have H := H1
                      clear H1
                      obtain rfl := Option.some.inj H
                      go_enter Tryd.func12, Tryd.ntmps12
                      go_wp2_with (first | ((with_reducible refine gate_callee (f := 35) rfl ?_); refine goesL_ (some 4) rfl rfl Tryd.func35 (by kernel_rfl) rfl #[.int .u8 63] rfl (by (try simp only [List.map_toArray, List.map_cons, List.map_nil]); first | done | rfl | (simp only [List.length_drop, List.length_take]; rfl)) ?_; (with_reducible refine (bit_Parse.calls k 63 t116 true _ A1.out).mono ?_); rintro e w' ⟨rfl, ⟨nd, rfl⟩⟩; refine ⟨_, rfl, ?_⟩) | ((with_reducible refine gate_callee (f := 15) rfl ?_); refine goesL_ (some 7) rfl rfl Tryd.func15 (by kernel_rfl) rfl #[.int .u8 0, .int .u8 2] rfl (by (try simp only [List.map_toArray, List.map_cons, List.map_nil]); first | done | rfl | (simp only [List.length_drop, List.length_take]; rfl)) ?_; (with_reducible refine (bit_And.calls 0 2 t118 _ (by repeat (first | exact HG.out | apply Glob.drewN | apply Glob.drew)) A2.out).mono ?_); rintro e w' ⟨rfl, ⟨nd, rfl⟩⟩; refine ⟨_, rfl, ?_⟩) | (go_at_call 15; (with_reducible refine (bit_And.calls 1 3 t119 _ (by repeat (first | exact HG.out | apply Glob.drewN | apply Glob.drew)) A4.out).mono ?_); rintro e w' ⟨rfl, ⟨nd, rfl⟩⟩) | (go_at_call 16; (with_reducible refine (bit_Or.calls 1 2 t120 _ (by repeat (first | exact HG.out | apply Glob.drewN | apply Glob.drew)) A6.out).mono ?_); rintro e w' ⟨rfl, ⟨nd, rfl⟩⟩) | (go_at_call 17; (with_reducible refine (bit_Xor.calls 2 2 t121 _ (by repeat (first | exact HG.out | apply Glob.drewN | apply Glob.drew)) A8.out).mono ?_); rintro e w' ⟨rfl, ⟨nd, rfl⟩⟩) | (go_at_call 19; (with_reducible refine (bit_Mux.calls 2 1 1 t122 _ (by repeat (first | exact HG.out | apply Glob.drewN | apply Glob.drew)) A10.out).mono ?_); rintro e w' ⟨rfl, ⟨nd, rfl⟩⟩) | (go_at_call 19; (with_reducible refine (bit_Mux.calls 2 1 0 t123 _ (by repeat (first | exact HG.out | apply Glob.drewN | apply Glob.drew)) A12.out).mono ?_); rintro e w' ⟨rfl, ⟨nd, rfl⟩⟩) | (go_at_call 19; (with_reducible refine (bit_Mux.calls 1 3 0 t124 _ (by repeat (first | exact HG.out | apply Glob.drewN | apply Glob.drew)) A14.out).mono ?_); rintro e w' ⟨rfl, ⟨nd, rfl⟩⟩) | (go_at_call 11; (with_reducible refine (bit_Leq.calls 2 0 true _ A16.out).mono ?_); rintro e w' ⟨rfl, ⟨nd, rfl⟩⟩) | (go_at_call 11; (with_reducible refine (bit_Leq.calls 2 3 false _ A18.out).mono ?_); rintro e w' ⟨rfl, ⟨nd, rfl⟩⟩))
                      go_ret
                      exact ⟨by first | rfl | (simp; done) | (simp [*]; done), by repeat (first | exact Drawn0.refl _ | apply Drawn0.step)⟩
                    · replace c20 := Bool.eq_false_iff.mpr c20
                      subst c20
                      have H1 : (some false) = some r := by rw [if_neg (show ¬ (false = true) by decide)] at H; exact H
                      clear H
                      have H := H1
                      clear H1
                      obtain rfl := Option.some.inj H
                      go_enter Tryd.func12, Tryd.ntmps12
                      go_wp2_with (first | ((with_reducible refine gate_callee (f := 35) rfl ?_); refine goesL_ (some 4) rfl rfl Tryd.func35 (by kernel_rfl) rfl #[.int .u8 63] rfl (by (try simp only [List.map_toArray, List.map_cons, List.map_nil]); first | done | rfl | (simp only [List.length_drop, List.length_take]; rfl)) ?_; (with_reducible refine (bit_Parse.calls k 63 t116 false _ A1.out).mono ?_); rintro e w' ⟨rfl, ⟨nd, rfl⟩⟩; refine ⟨_, rfl, ?_⟩) | ((with_reducible refine gate_callee (f := 15) rfl ?_); refine goesL_ (some 7) rfl rfl Tryd.func15 (by kernel_rfl) rfl #[.int .u8 0, .int .u8 2] rfl (by (try simp only [List.map_toArray, List.map_cons, List.map_nil]); first | done | rfl | (simp only [List.length_drop, List.length_take]; rfl)) ?_; (with_reducible refine (bit_And.calls 0 2 t118 _ (by repeat (first | exact HG.out | apply Glob.drewN | apply Glob.drew)) A2.out).mono ?_); rintro e w' ⟨rfl, ⟨nd, rfl⟩⟩; refine ⟨_, rfl, ?_⟩) | (go_at_call 15; (with_reducible refine (bit_And.calls 1 3 t119 _ (by repeat (first | exact HG.out | apply Glob.drewN | apply Glob.drew)) A4.out).mono ?_); rintro e w' ⟨rfl, ⟨nd, rfl⟩⟩) | (go_at_call 16; (with_reducible refine (bit_Or.calls 1 2 t120 _ (by repeat (first | exact HG.out | apply Glob.drewN | apply Glob.drew)) A6.out).mono ?_); rintro e w' ⟨rfl, ⟨nd, rfl⟩⟩) | (go_at_call 17; (with_reducible refine (bit_Xor.calls 2 2 t121 _ (by repeat (first | exact HG.out | apply Glob.drewN | apply Glob.drew)) A8.out).mono ?_); rintro e w' ⟨rfl, ⟨nd, rfl⟩⟩) | (go_at_call 19; (with_reducible refine (bit_Mux.calls 2 1 1 t122 _ (by repeat (first | exact HG.out | apply Glob.drewN | apply Glob.drew)) A10.out).mono ?_); rintro e w' ⟨rfl, ⟨nd, rfl⟩⟩) | (go_at_call 19; (with_reducible refine (bit_Mux.calls 2 1 0 t123 _ (by repeat (first | exact HG.out | apply Glob.drewN | apply Glob.drew)) A12.out).mono ?_); rintro e w' ⟨rfl, ⟨nd, rfl⟩⟩) | (go_at_call 19; (with_reducible refine (bit_Mux.calls 1 3 0 t124 _ (by repeat (first | exact HG.out | apply Glob.drewN | apply Glob.drew)) A14.out).mono ?_); rintro e w' ⟨rfl, ⟨nd, rfl⟩⟩) | (go_at_call 11; (with_reducible refine (bit_Leq.calls 2 0 true _ A16.out).mono ?_); rintro e w' ⟨rfl, ⟨nd, rfl⟩⟩) | (go_at_call 11; (with_reducible refine (bit_Leq.calls 2 3 false _ A18.out).mono ?_); rintro e w' ⟨rfl, ⟨nd, rfl⟩⟩))
                      go_ret
                      exact ⟨by first | rfl | (simp; done) | (simp [*]; done), by repeat (first | exact Drawn0.refl _ | apply Drawn0.step)⟩
                · replace c17 := Bool.eq_false_iff.mpr c17
                  subst c17
                  have H1 : (some false) = some r := by rw [if_neg (show ¬ (false = true) by decide)] at H; exact H
                  clear H
                  have H := H1
                  clear H1
                  obtain rfl := Option.some.inj H
                  go_enter Tryd.func12, Tryd.ntmps12
                  go_wp2_with (first | ((with_reducible refine gate_callee (f := 35) rfl ?_); refine goesL_ (some 4) rfl rfl Tryd.func35 (by kernel_rfl) rfl #[.int .u8 63] rfl (by (try simp only [List.map_toArray, List.map_cons, List.map_nil]); first | done | rfl | (simp only [List.length_drop, List.length_take]; rfl)) ?_; (with_reducible refine (bit_Parse.calls k 63 t116 t117 _ A1.out).mono ?_); rintro e w' ⟨rfl, ⟨nd, rfl⟩⟩; refine ⟨_, rfl, ?_⟩) | ((with_reducible refine gate_callee (f := 15) rfl ?_); refine goesL_ (some 7) rfl rfl Tryd.func15 (by kernel_rfl) rfl #[.int .u8 0, .int .u8 2] rfl (by (try simp only [List.map_toArray, List.map_cons, List.map_nil]); first | done | rfl | (simp only [List.length_drop, List.length_take]; rfl)) ?_; (with_reducible refine (bit_And.calls 0 2 t118 _ (by repeat (first | exact HG.out | apply Glob.drewN | apply Glob.drew)) A2.out).mono ?_); rintro e w' ⟨rfl, ⟨nd, rfl⟩⟩; refine ⟨_, rfl, ?_⟩) | (go_at_call 15; (with_reducible refine (bit_And.calls 1 3 t119 _ (by repeat (first | exact HG.out | apply Glob.drewN | apply Glob.drew)) A4.out).mono ?_); rintro e w' ⟨rfl, ⟨nd, rfl⟩⟩) | (go_at_call 16; (with_reducible refine (bit_Or.calls 1 2 t120 _ (by repeat (first | exact HG.out | apply Glob.drewN | apply Glob.drew)) A6.out).mono ?_); rintro e w' ⟨rfl, ⟨nd, rfl⟩⟩) | (go_at_call 17; (with_reducible refine (bit_Xor.calls 2 2 t121 _ (by repeat (first | exact HG.out | apply Glob.drewN | apply Glob.drew)) A8.out).mono ?_); rintro e w' ⟨rfl, ⟨nd, rfl⟩⟩) | (go_at_call 19; (with_reducible refine (bit_Mux.calls 2 1 1 t122 _ (by repeat (first | exact HG.out | apply Glob.drewN | apply Glob.drew)) A10.out).mono ?_); rintro e w' ⟨rfl, ⟨nd, rfl⟩⟩) | (go_at_call 19; (with_reducible refine (bit_Mux.calls 2 1 0 t123 _ (by repeat (first | exact HG.out | apply Glob.drewN | apply Glob.drew)) A12.out).mono ?_); rintro e w' ⟨rfl, ⟨nd, rfl⟩⟩) | (go_at_call 19; (with_reducible refine (bit_Mux.calls 1 3 0 t124 _ (by repeat (first | exact HG.out | apply Glob.drewN | apply Glob.drew)) A14.out).mono ?_); rintro e w' ⟨rfl, ⟨nd, rfl⟩⟩) | (go_at_call 11; (with_reducible refine (bit_Leq.calls 2 0 false _ A16.out).mono ?_); rintro e w' ⟨rfl, ⟨nd, rfl⟩⟩))
                  go_ret
                  exact ⟨by first | rfl | (simp; done) | (simp [*]; done), by repeat (first | exact Drawn0.refl _ | apply Drawn0.step)⟩
              · rw [if_neg c15] at H
                have c15b0 : (t124 == 2) = false := beq_eq_false_iff_ne.mpr c15
                have c15b1 : (t124 != 2) = true := bne_iff_ne.mpr c15
                obtain rfl := Option.some.inj H
                go_enter Tryd.func12, Tryd.ntmps12
                go_wp2_with (first | ((with_reducible refine gate_callee (f := 35) rfl ?_); refine goesL_ (some 4) rfl rfl Tryd.func35 (by kernel_rfl) rfl #[.int .u8 63] rfl (by (try simp only [List.map_toArray, List.map_cons, List.map_nil]); first | done | rfl | (simp only [List.length_drop, List.length_take]; rfl)) ?_; (with_reducible refine (bit_Parse.calls k 63 t116 t117 _ A1.out).mono ?_); rintro e w' ⟨rfl, ⟨nd, rfl⟩⟩; refine ⟨_, rfl, ?_⟩) | ((with_reducible refine gate_callee (f := 15) rfl ?_); refine goesL_ (some 7) rfl rfl Tryd.func15 (by kernel_rfl) rfl #[.int .u8 0, .int .u8 2] rfl (by (try simp only [List.map_toArray, List.map_cons, List.map_nil]); first | done | rfl | (simp only [List.length_drop, List.length_take]; rfl)) ?_; (with_reducible refine (bit_And.calls 0 2 t118 _ (by repeat (first | exact HG.out | apply Glob.drewN | apply Glob.drew)) A2.out).mono ?_); rintro e w' ⟨rfl, ⟨nd, rfl⟩⟩; refine ⟨_, rfl, ?_⟩) | (go_at_call 15; (with_reducible refine (bit_And.calls 1 3 t119 _ (by repeat (first | exact HG.out | apply Glob.drewN | apply Glob.drew)) A4.out).mono ?_); rintro e w' ⟨rfl, ⟨nd, rfl⟩⟩) | (go_at_call 16; (with_reducible refine (bit_Or.calls 1 2 t120 _ (by repeat (first | exact HG.out | apply Glob.drewN | apply Glob.drew)) A6.out).mono ?_); rintro e w' ⟨rfl, ⟨nd, rfl⟩⟩) | (go_at_call 17; (with_reducible refine (bit_Xor.calls 2 2 t121 _ (by repeat (first | exact HG.out | apply Glob.drewN | apply Glob.drew)) A8.out).mono ?_); rintro e w' ⟨rfl, ⟨nd, rfl⟩⟩) | (go_at_call 19; (with_reducible refine (bit_Mux.calls 2 1 1 t122 _ (by repeat (first | exact HG.out | apply Glob.drewN | apply Glob.drew)) A10.out).mono ?_); rintro e w' ⟨rfl, ⟨nd, rfl⟩⟩) | (go_at_call 19; (with_reducible refine (bit_Mux.calls 2 1 0 t123 _ (by repeat (first | exact HG.out | apply Glob.drewN | apply Glob.drew)) A12.out).mono ?_); rintro e w' ⟨rfl, ⟨nd, rfl⟩⟩) | (go_at_call 19; (with_reducible refine (bit_Mux.calls 1 3 0 t124 _ (by repeat (first | exact HG.out | apply Glob.drewN | apply Glob.drew)) A14.out).mono ?_); rintro e w' ⟨rfl, ⟨nd, rfl⟩⟩))
                go_ret
                exact ⟨by first | rfl | (simp; done) | (simp [*]; done), by repeat (first | exact Drawn0.refl _ | apply Drawn0.step)⟩
            · rw [if_neg c13] at H
              have c13b0 : (t123 == 2) = false := beq_eq_false_iff_ne.mpr c13
              have c13b1 : (t123 != 2) = true := bne_iff_ne.mpr c13
              obtain rfl := Option.some.inj H
              go_enter Tryd.func12, Tryd.ntmps12
              go_wp2_with (first | ((with_reducible refine gate_callee (f := 35) rfl ?_); refine goesL_ (some 4) rfl rfl Tryd.func35 (by kernel_rfl) rfl #[.int .u8 63] rfl (by (try simp only [List.map_toArray, List.map_cons, List.map_nil]); first | done | rfl | (simp only [List.length_drop, List.length_take]; rfl)) ?_; (with_reducible refine (bit_Parse.calls k 63 t116 t117 _ A1.out).mono ?_); rintro e w' ⟨rfl, ⟨nd, rfl⟩⟩; refine ⟨_, rfl, ?_⟩) | ((with_reducible refine gate_callee (f := 15) rfl ?_); refine goesL_ (some 7) rfl rfl Tryd.func15 (by kernel_rfl) rfl #[.int .u8 0, .int .u8 2] rfl (by (try simp only [List.map_toArray, List.map_cons, List.map_nil]); first | done | rfl | (simp only [List.length_drop, List.length_take]; rfl)) ?_; (with_reducible refine (bit_And.calls 0 2 t118 _ (by repeat (first | exact HG.out | apply Glob.drewN | apply Glob.drew)) A2.out).mono ?_); rintro e w' ⟨rfl, ⟨nd, rfl⟩⟩; refine ⟨_, rfl, ?_⟩) | (go_at_call 15; (with_reducible refine (bit_And.calls 1 3 t119 _ (by repeat (first | exact HG.out | apply Glob.drewN | apply Glob.drew)) A4.out).mono ?_); rintro e w' ⟨rfl, ⟨nd, rfl⟩⟩) | (go_at_call 16; (with_reducible refine (bit_Or.calls 1 2 t120 _ (by repeat (first | exact HG.out | apply Glob.drewN | apply Glob.drew)) A6.out).mono ?_); rintro e w' ⟨rfl, ⟨nd, rfl⟩⟩) | (go_at_call 17; (with_reducible refine (bit_Xor.calls 2 2 t121 _ (by repeat (first | exact HG.out | apply Glob.drewN | apply Glob.drew)) A8.out).mono ?_); rintro e w' ⟨rfl, ⟨nd, rfl⟩⟩) | (go_at_call 19; (with_reducible refine (bit_Mux.calls 2 1 1 t122 _ (by repeat (first | exact HG.out | apply Glob.drewN | apply Glob.drew)) A10.out).mono ?_); rintro e w' ⟨rfl, ⟨nd, rfl⟩⟩) | (go_at_call 19; (with_reducible refine (bit_Mux.calls 2 1 0 t123 _ (by repeat (first | exact HG.out | apply Glob.drewN | apply Glob.drew)) A12.out).mono ?_); rintro e w' ⟨rfl, ⟨nd, rfl⟩⟩))
              go_ret
              exact ⟨by first | rfl | (simp; done) | (simp [*]; done), by repeat (first | exact Drawn0.refl _ | apply Drawn0.step)⟩
          · rw [if_neg c11] at H
            have c11b0 : (t122 == 1) = false := beq_eq_false_iff_ne.mpr c11
            have c11b1 : (t122 != 1) = true := bne_iff_ne.mpr c11
            obtain rfl := Option.some.inj H
            go_enter Tryd.func12, Tryd.ntmps12
            go_wp2_with (first | ((with_reducible refine gate_callee (f := 35) rfl ?_); refine goesL_ (some 4) rfl rfl Tryd.func35 (by kernel_rfl) rfl #[.int .u8 63] rfl (by (try simp only [List.map_toArray, List.map_cons, List.map_nil]); first | done | rfl | (simp only [List.length_drop, List.length_take]; rfl)) ?_; (with_reducible refine (bit_Parse.calls k 63 t116 t117 _ A1.out).mono ?_); rintro e w' ⟨rfl, ⟨nd, rfl⟩⟩; refine ⟨_, rfl, ?_⟩) | ((with_reducible refine gate_callee (f := 15) rfl ?_); refine goesL_ (some 7) rfl rfl Tryd.func15 (by kernel_rfl) rfl #[.int .u8 0, .int .u8 2] rfl (by (try simp only [List.map_toArray, List.map_cons, List.map_nil]); first | done | rfl | (simp only [List.length_drop, List.length_take]; rfl)) ?_; (with_reducible refine (bit_And.calls 0 2 t118 _ (by repeat (first | exact HG.out | apply Glob.drewN | apply Glob.drew)) A2.out).mono ?_); rintro e w' ⟨rfl, ⟨nd, rfl⟩⟩; refine ⟨_, rfl, ?_⟩) | (go_at_call 15; (with_reducible refine (bit_And.calls 1 3 t119 _ (by repeat (first | exact HG.out | apply Glob.drewN | apply Glob.drew)) A4.out).mono ?_); rintro e w' ⟨rfl, ⟨nd, rfl⟩⟩) | (go_at_call 16; (with_reducible refine (bit_Or.calls 1 2 t120 _ (by repeat (first | exact HG.out | apply Glob.drewN | apply Glob.drew)) A6.out).mono ?_); rintro e w' ⟨rfl, ⟨nd, rfl⟩⟩) | (go_at_call 17; (with_reducible refine (bit_Xor.calls 2 2 t121 _ (by repeat (first | exact HG.out | apply Glob.drewN | apply Glob.drew)) A8.out).mono ?_); rintro e w' ⟨rfl, ⟨nd, rfl⟩⟩) | (go_at_call 19; (with_reducible refine (bit_Mux.calls 2 1 1 t122 _ (by repeat (first | exact HG.out | apply Glob.drewN | apply Glob.drew)) A10.out).mono ?_); rintro e w' ⟨rfl, ⟨nd, rfl⟩⟩))
            go_ret
            exact ⟨by first | rfl | (simp; done) | (simp [*]; done), by repeat (first | exact Drawn0.refl _ | apply Drawn0.step)⟩
        · rw [if_neg c9] at H
          have c9b0 : (t121 == 2) = false := beq_eq_false_iff_ne.mpr c9
          have c9b1 : (t121 != 2) = true := bne_iff_ne.mpr c9
          obtain rfl := Option.some.inj H
          go_enter Tryd.func12, Tryd.ntmps12
          go_wp2_with (first | ((with_reducible refine gate_callee (f := 35) rfl ?_); refine goesL_ (some 4) rfl rfl Tryd.func35 (by kernel_rfl) rfl #[.int .u8 63] rfl (by (try simp only [List.map_toArray, List.map_cons, List.map_nil]); first | done | rfl | (simp only [List.length_drop, List.length_take]; rfl)) ?_; (with_reducible refine (bit_Parse.calls k 63 t116 t117 _ A1.out).mono ?_); rintro e w' ⟨rfl, ⟨nd, rfl⟩⟩; refine ⟨_, rfl, ?_⟩) | ((with_reducible refine gate_callee (f := 15) rfl ?_); refine goesL_ (some 7) rfl rfl Tryd.func15 (by kernel_rfl) rfl #[.int .u8 0, .int .u8 2] rfl (by (try simp only [List.map_toArray, List.map_cons, List.map_nil]); first | done | rfl | (simp only [List.length_drop, List.length_take]; rfl)) ?_; (with_reducible refine (bit_And.calls 0 2 t118 _ (by repeat (first | exact HG.out | apply Glob.drewN | apply Glob.drew)) A2.out).mono ?_); rintro e w' ⟨rfl, ⟨nd, rfl⟩⟩; refine ⟨_, rfl, ?_⟩) | (go_at_call 15; (with_reducible refine (bit_And.calls 1 3 t119 _ (by repeat (first | exact HG.out | apply Glob.drewN | apply Glob.drew)) A4.out).mono ?_); rintro e w' ⟨rfl, ⟨nd, rfl⟩⟩) | (go_at_call 16; (with_reducible refine (bit_Or.calls 1 2 t120 _ (by repeat (first | exact HG.out | apply Glob.drewN | apply Glob.drew)) A6.out).mono ?_); rintro e w' ⟨rfl, ⟨nd, rfl⟩⟩) | (go_at_call 17; (with_reducible refine (bit_Xor.calls 2 2 t121 _ (by repeat (first | exact HG.out | apply Glob.drewN | apply Glob.drew)) A8.out).mono ?_); rintro e w' ⟨rfl, ⟨nd, rfl⟩⟩))
          go_ret
          exact ⟨by first | rfl | (simp; done) | (simp [*]; done), by repeat (first | exact Drawn0.refl _ | apply Drawn0.step)⟩
      · rw [if_neg c7] at H
        have c7b0 : (t120 == 1) = false := beq_eq_false_iff_ne.mpr c7
        have c7b1 : (t120 != 1) = true := bne_iff_ne.mpr c7
        obtain rfl := Option.some.inj H
        go_enter Tryd.func12, Tryd.ntmps12
        go_wp2_with (first | ((with_reducible refine gate_callee (f := 35) rfl ?_); refine goesL_ (some 4) rfl rfl Tryd.func35 (by kernel_rfl) rfl #[.int .u8 63] rfl (by (try simp only [List.map_toArray, List.map_cons, List.map_nil]); first | done | rfl | (simp only [List.length_drop, List.length_take]; rfl)) ?_; (with_reducible refine (bit_Parse.calls k 63 t116 t117 _ A1.out).mono ?_); rintro e w' ⟨rfl, ⟨nd, rfl⟩⟩; refine ⟨_, rfl, ?_⟩) | ((with_reducible refine gate_callee (f := 15) rfl ?_); refine goesL_ (some 7) rfl rfl Tryd.func15 (by kernel_rfl) rfl #[.int .u8 0, .int .u8 2] rfl (by (try simp only [List.map_toArray, List.map_cons, List.map_nil]); first | done | rfl | (simp only [List.length_drop, List.length_take]; rfl)) ?_; (with_reducible refine (bit_And.calls 0 2 t118 _ (by repeat (first | exact HG.out | apply Glob.drewN | apply Glob.drew)) A2.out).mono ?_); rintro e w' ⟨rfl, ⟨nd, rfl⟩⟩; refine ⟨_, rfl, ?_⟩) | (go_at_call 15; (with_reducible refine (bit_And.calls 1 3 t119 _ (by repeat (first | exact HG.out | apply Glob.drewN | apply Glob.drew)) A4.out).mono ?_); rintro e w' ⟨rfl, ⟨nd, rfl⟩⟩) | (go_at_call 16; (with_reducible refine (bit_Or.calls 1 2 t120 _ (by repeat (first | exact HG.out | apply Glob.drewN | apply Glob.drew)) A6.out).mono ?_); rintro e w' ⟨rfl, ⟨nd, rfl⟩⟩))
        go_ret
        exact ⟨by first | rfl | (simp; done) | (simp [*]; done), by repeat (first | exact Drawn0.refl _ | apply Drawn0.step)⟩
    · rw [if_neg c5] at H
      have c5b0 : (t119 == 2) = false := beq_eq_false_iff_ne.mpr c5
      have c5b1 : (t119 != 2) = true := bne_iff_ne.mpr c5
      obtain rfl := Option.some.inj H
      go_enter Tryd.func12, Tryd.ntmps12
      go_wp2_with (first | ((with_reducible refine gate_callee (f := 35) rfl ?_); refine goesL_ (some 4) rfl rfl Tryd.func35 (by kernel_rfl) rfl #[.int .u8 63] rfl (by (try simp only [List.map_toArray, List.map_cons, List.map_nil]); first | done | rfl | (simp only [List.length_drop, List.length_take]; rfl)) ?_; (with_reducible refine (bit_Parse.calls k 63 t116 t117 _ A1.out).mono ?_); rintro e w' ⟨rfl, ⟨nd, rfl⟩⟩; refine ⟨_, rfl, ?_⟩) | ((with_reducible refine gate_callee (f := 15) rfl ?_); refine goesL_ (some 7) rfl rfl Tryd.func15 (by kernel_rfl) rfl #[.int .u8 0, .int .u8 2] rfl (by (try simp only [List.map_toArray, List.map_cons, List.map_nil]); first | done | rfl | (simp only [List.length_drop, List.length_take]; rfl)) ?_; (with_reducible refine (bit_And.calls 0 2 t118 _ (by repeat (first | exact HG.out | apply Glob.drewN | apply Glob.drew)) A2.out).mono ?_); rintro e w' ⟨rfl, ⟨nd, rfl⟩⟩; refine ⟨_, rfl, ?_⟩) | (go_at_call 15; (with_reducible refine (bit_And.calls 1 3 t119 _ (by repeat (first | exact HG.out | apply Glob.drewN | apply Glob.drew)) A4.out).mono ?_); rintro e w' ⟨rfl, ⟨nd, rfl⟩⟩))
      go_ret
      exact ⟨by first | rfl | (simp; done) | (simp [*]; done), by repeat (first | exact Drawn0.refl _ | apply Drawn0.step)⟩
  · rw [if_neg c3] at H
    have c3b0 : (t118 == 0) = false := beq_eq_false_iff_ne.mpr c3
    have c3b1 : (t118 != 0) = true := bne_iff_ne.mpr c3
    obtain rfl := Option.some.inj H
    go_enter Tryd.func12, Tryd.ntmps12
    go_wp2_with (first | ((with_reducible refine gate_callee (f := 35) rfl ?_); refine goesL_ (some 4) rfl rfl Tryd.func35 (by kernel_rfl) rfl #[.int .u8 63] rfl (by (try simp only [List.map_toArray, List.map_cons, List.map_nil]); first | done | rfl | (simp only [List.length_drop, List.length_take]; rfl)) ?_; (with_reducible refine (bit_Parse.calls k 63 t116 t117 _ A1.out).mono ?_); rintro e w' ⟨rfl, ⟨nd, rfl⟩⟩; refine ⟨_, rfl, ?_⟩) | ((with_reducible refine gate_callee (f := 15) rfl ?_); refine goesL_ (some 7) rfl rfl Tryd.func15 (by kernel_rfl) rfl #[.int .u8 0, .int .u8 2] rfl (by (try simp only [List.map_toArray, List.map_cons, List.map_nil]); first | done | rfl | (simp only [List.length_drop, List.length_take]; rfl)) ?_; (with_reducible refine (bit_And.calls 0 2 t118 _ (by repeat (first | exact HG.out | apply Glob.drewN | apply Glob.drew)) A2.out).mono ?_); rintro e w' ⟨rfl, ⟨nd, rfl⟩⟩; refine ⟨_, rfl, ?_⟩))
    go_ret
    exact ⟨by first | rfl | (simp; done) | (simp [*]; done), by repeat (first | exact Drawn0.refl _ | apply Drawn0.step)⟩

end Go.Proofs.YteioheookffjiaaDoor.F
