-- Written by a program of this session (wip/tools/drive.py) over the kit's print.py.
import Derived.Test.YteioheookffjiaaDoorF0
import Derived.Test.YteioheookffjiaaDoorF1
import Derived.Test.YteioheookffjiaaDoorF2
namespace Go.Proofs.YteioheookffjiaaDoor.F
open Go.RowKit Go.Proofs.YteioheookffjiaaDoorW.PrintWords Go.Proofs.YteioheookffjiaaDoorW.PrintLast Go.Proofs.YteioheookffjiaaDoorW.PrintMore
attribute [local go_sem] max2_int min2_int max_two min_two max_three min_three max_four min_four   -- for this text's walks alone
set_option linter.unusedVariables false
set_option linter.unusedSimpArgs false

/-! ### netlablaw01_BitAlgebra: function 4 -/
mutual
def netlablaw01_BitAlgebra.j0 : Nat → Int → Int → Int → Bool → Option (Bool)
  | 0, _, _, _, _ => none
  | k + 1, x0, x1, x2, x47 => if x47 = true then (some false) else ((bit_And.f x0 x1).bind fun t162 => ((bit_And.f t162 x2).bind fun t163 => ((bit_And.f x1 x2).bind fun t164 => ((bit_And.f x0 t164).bind fun t165 => (if t163 = t165 then ((bit_Or.f x0 x1).bind fun t166 => ((bit_Or.f t166 x2).bind fun t167 => ((bit_Or.f x1 x2).bind fun t168 => ((bit_Or.f x0 t168).bind fun t169 => (if t167 = t169 then ((bit_Xor.f x0 x1).bind fun t170 => ((bit_Xor.f t170 x2).bind fun t171 => ((bit_Xor.f x1 x2).bind fun t172 => ((bit_Xor.f x0 t172).bind fun t173 => (netlablaw01_BitAlgebra.j1 k x0 x1 x2 (t171 != t173)))))) else (netlablaw01_BitAlgebra.j1 k x0 x1 x2 true)))))) else (netlablaw01_BitAlgebra.j1 k x0 x1 x2 true))))))
def netlablaw01_BitAlgebra.j1 : Nat → Int → Int → Int → Bool → Option (Bool)
  | 0, _, _, _, _ => none
  | k + 1, x0, x1, x2, x84 => if x84 = true then (some false) else ((bit_Or.f x1 x2).bind fun t174 => ((bit_And.f x0 t174).bind fun t175 => ((bit_And.f x0 x1).bind fun t176 => ((bit_And.f x0 x2).bind fun t177 => ((bit_Or.f t176 t177).bind fun t178 => (if t175 = t178 then ((bit_And.f x1 x2).bind fun t179 => ((bit_Or.f x0 t179).bind fun t180 => ((bit_Or.f x0 x1).bind fun t181 => ((bit_Or.f x0 x2).bind fun t182 => ((bit_And.f t181 t182).bind fun t183 => (if t180 = t183 then ((bit_Not.f t176).bind fun t184 => ((bit_Not.f x0).bind fun t185 => ((bit_Not.f x1).bind fun t186 => ((bit_Or.f t185 t186).bind fun t187 => (if t184 = t187 then ((bit_Not.f t181).bind fun t188 => ((bit_And.f t185 t186).bind fun t189 => (if t188 = t189 then ((netlablaw01_awake.f k).bind fun t190 => (some t190)) else (some false)))) else (some false)))))) else (some false))))))) else (some false)))))))
end
def netlablaw01_BitAlgebra.f (k : Nat) (a0 : Int) (a1 : Int) (a2 : Int) : Option (Bool) := (bit_And.f a0 a1).bind fun t153 => ((bit_And.f a1 a0).bind fun t154 => (if t153 = t154 then ((bit_Or.f a0 a1).bind fun t155 => ((bit_Or.f a1 a0).bind fun t156 => (if t155 = t156 then ((bit_Xor.f a0 a1).bind fun t157 => ((bit_Xor.f a1 a0).bind fun t158 => (if t157 = t158 then ((bit_And.f a0 a0).bind fun t159 => ((bit_Buf.f a0).bind fun t160 => (if t159 = t160 then ((bit_Or.f a0 a0).bind fun t161 => (netlablaw01_BitAlgebra.j0 k a0 a1 a2 (t161 != t160))) else (netlablaw01_BitAlgebra.j0 k a0 a1 a2 true)))) else (netlablaw01_BitAlgebra.j0 k a0 a1 a2 true)))) else (netlablaw01_BitAlgebra.j0 k a0 a1 a2 true)))) else (netlablaw01_BitAlgebra.j0 k a0 a1 a2 true)))
theorem netlablaw01_BitAlgebra.mono_l : ∀ k, (∀ y0 y1 y2 y3, LeO (netlablaw01_BitAlgebra.j0 k y0 y1 y2 y3) (netlablaw01_BitAlgebra.j0 (k + 1) y0 y1 y2 y3)) ∧ (∀ y0 y1 y2 y3, LeO (netlablaw01_BitAlgebra.j1 k y0 y1 y2 y3) (netlablaw01_BitAlgebra.j1 (k + 1) y0 y1 y2 y3))
  | 0 => ⟨fun _ _ _ _ r h => by simp [netlablaw01_BitAlgebra.j0] at h, fun _ _ _ _ r h => by simp [netlablaw01_BitAlgebra.j1] at h⟩
  | k + 1 => by
    obtain ⟨ih0, ih1⟩ := netlablaw01_BitAlgebra.mono_l k
    refine ⟨?_, ?_⟩
    · intro y0 y1 y2 y3
      unfold netlablaw01_BitAlgebra.j0
      repeat' first
      | (with_reducible exact ih0 _ _ _ _)
      | (with_reducible exact ih1 _ _ _ _)
      | (with_reducible exact netlablaw01_awake.mono _)
      | (with_reducible exact LeO.refl _)
      | (with_reducible exact LeO.none _)
      | (with_reducible refine LeO.ite ?_ ?_)
      | (with_reducible refine LeO.bind ?_ (fun _ => ?_))
      | exact ih0 _ _ _ _
      | exact ih1 _ _ _ _
      | exact netlablaw01_awake.mono _
      | exact LeO.none _
      | refine LeO.ite ?_ ?_
      | refine LeO.bind ?_ (fun _ => ?_)
    · intro y0 y1 y2 y3
      unfold netlablaw01_BitAlgebra.j1
      repeat' first
      | (with_reducible exact ih0 _ _ _ _)
      | (with_reducible exact ih1 _ _ _ _)
      | (with_reducible exact netlablaw01_awake.mono _)
      | (with_reducible exact LeO.refl _)
      | (with_reducible exact LeO.none _)
      | (with_reducible refine LeO.ite ?_ ?_)
      | (with_reducible refine LeO.bind ?_ (fun _ => ?_))
      | exact ih0 _ _ _ _
      | exact ih1 _ _ _ _
      | exact netlablaw01_awake.mono _
      | exact LeO.none _
      | refine LeO.ite ?_ ?_
      | refine LeO.bind ?_ (fun _ => ?_)
theorem netlablaw01_BitAlgebra.mono : ∀ a0 a1 a2 k, LeO (netlablaw01_BitAlgebra.f k a0 a1 a2) (netlablaw01_BitAlgebra.f (k + 1) a0 a1 a2) := by
  intro a0 a1 a2 k
  obtain ⟨ih0, ih1⟩ := netlablaw01_BitAlgebra.mono_l k
  unfold netlablaw01_BitAlgebra.f
  repeat' first
      | (with_reducible exact ih0 _ _ _ _)
      | (with_reducible exact ih1 _ _ _ _)
      | (with_reducible exact netlablaw01_awake.mono _)
      | (with_reducible exact LeO.refl _)
      | (with_reducible exact LeO.none _)
      | (with_reducible refine LeO.ite ?_ ?_)
      | (with_reducible refine LeO.bind ?_ (fun _ => ?_))
      | exact ih0 _ _ _ _
      | exact ih1 _ _ _ _
      | exact netlablaw01_awake.mono _
      | exact LeO.none _
      | refine LeO.ite ?_ ?_
      | refine LeO.bind ?_ (fun _ => ?_)
set_option maxHeartbeats 8000000 in
set_option maxRecDepth 100000 in
theorem netlablaw01_BitAlgebra.calls (k : Nat) (a0 : Int) (a1 : Int) (a2 : Int) (r : Bool) (w : World) (hG : Glob w) (h : netlablaw01_BitAlgebra.f k a0 a1 a2 = some r) :
    Calls Tryd.prog 4 #[.int .u8 a0, .int .u8 a1, .int .u8 a2] w fun e w' => e = .returned (.bool r) ∧ Drawn0 w w' := by
  have HG := Aside0.mk hG
  clear hG
  have H : ((bit_And.f a0 a1).bind fun t153 => ((bit_And.f a1 a0).bind fun t154 => (if t153 = t154 then ((bit_Or.f a0 a1).bind fun t155 => ((bit_Or.f a1 a0).bind fun t156 => (if t155 = t156 then ((bit_Xor.f a0 a1).bind fun t157 => ((bit_Xor.f a1 a0).bind fun t158 => (if t157 = t158 then ((bit_And.f a0 a0).bind fun t159 => ((bit_Buf.f a0).bind fun t160 => (if t159 = t160 then ((bit_Or.f a0 a0).bind fun t161 => (netlablaw01_BitAlgebra.j0 k a0 a1 a2 (t161 != t160))) else (netlablaw01_BitAlgebra.j0 k a0 a1 a2 true)))) else (netlablaw01_BitAlgebra.j0 k a0 a1 a2 true)))) else (netlablaw01_BitAlgebra.j0 k a0 a1 a2 true)))) else (netlablaw01_BitAlgebra.j0 k a0 a1 a2 true)))) = some r := h
  clear h
  have HC4 := Aside0.mk H
  clear H
  go_enter Tryd.func4, Tryd.ntmps4
  go_upto_region 1 with (fail)
  go_cut [47] (fun v47 wc => ∃ (kq : Nat) (x47_3 : Bool), v47 = .bool x47_3 ∧ Aside0 (netlablaw01_BitAlgebra.j0 kq a0 a1 a2 x47_3 = some r) ∧ Aside0 (kq ≤ k) ∧ Drawn0 w wc)
  case first =>
    have H := HC4.out
    clear HC4
    replace H := Option.bind_eq_some_iff.mp H
    obtain ⟨t153, A50, H⟩ := H
    replace H : ((bit_And.f a1 a0).bind fun t154 => (if t153 = t154 then ((bit_Or.f a0 a1).bind fun t155 => ((bit_Or.f a1 a0).bind fun t156 => (if t155 = t156 then ((bit_Xor.f a0 a1).bind fun t157 => ((bit_Xor.f a1 a0).bind fun t158 => (if t157 = t158 then ((bit_And.f a0 a0).bind fun t159 => ((bit_Buf.f a0).bind fun t160 => (if t159 = t160 then ((bit_Or.f a0 a0).bind fun t161 => (netlablaw01_BitAlgebra.j0 k a0 a1 a2 (t161 != t160))) else (netlablaw01_BitAlgebra.j0 k a0 a1 a2 true)))) else (netlablaw01_BitAlgebra.j0 k a0 a1 a2 true)))) else (netlablaw01_BitAlgebra.j0 k a0 a1 a2 true)))) else (netlablaw01_BitAlgebra.j0 k a0 a1 a2 true))) = some r := H
    have A5 := Aside0.mk A50
    clear A50
    replace H := Option.bind_eq_some_iff.mp H
    obtain ⟨t154, A60, H⟩ := H
    replace H : (if t153 = t154 then ((bit_Or.f a0 a1).bind fun t155 => ((bit_Or.f a1 a0).bind fun t156 => (if t155 = t156 then ((bit_Xor.f a0 a1).bind fun t157 => ((bit_Xor.f a1 a0).bind fun t158 => (if t157 = t158 then ((bit_And.f a0 a0).bind fun t159 => ((bit_Buf.f a0).bind fun t160 => (if t159 = t160 then ((bit_Or.f a0 a0).bind fun t161 => (netlablaw01_BitAlgebra.j0 k a0 a1 a2 (t161 != t160))) else (netlablaw01_BitAlgebra.j0 k a0 a1 a2 true)))) else (netlablaw01_BitAlgebra.j0 k a0 a1 a2 true)))) else (netlablaw01_BitAlgebra.j0 k a0 a1 a2 true)))) else (netlablaw01_BitAlgebra.j0 k a0 a1 a2 true)) = some r := H
    have A6 := Aside0.mk A60
    clear A60
    by_cases c7 : t153 = t154
    · rw [if_pos c7] at H
      have c7b0 : (t153 == t154) = true := beq_iff_eq.mpr c7
      have c7b1 : (t153 != t154) = false := bne_eq_false_iff_eq.mpr c7
      clear c7
      (first | rw [c7b0] | (simp only [i64_w, i32_w]; rw [c7b0]) | skip)
      replace H := Option.bind_eq_some_iff.mp H
      obtain ⟨t155, A80, H⟩ := H
      replace H : ((bit_Or.f a1 a0).bind fun t156 => (if t155 = t156 then ((bit_Xor.f a0 a1).bind fun t157 => ((bit_Xor.f a1 a0).bind fun t158 => (if t157 = t158 then ((bit_And.f a0 a0).bind fun t159 => ((bit_Buf.f a0).bind fun t160 => (if t159 = t160 then ((bit_Or.f a0 a0).bind fun t161 => (netlablaw01_BitAlgebra.j0 k a0 a1 a2 (t161 != t160))) else (netlablaw01_BitAlgebra.j0 k a0 a1 a2 true)))) else (netlablaw01_BitAlgebra.j0 k a0 a1 a2 true)))) else (netlablaw01_BitAlgebra.j0 k a0 a1 a2 true))) = some r := H
      have A8 := Aside0.mk A80
      clear A80
      replace H := Option.bind_eq_some_iff.mp H
      obtain ⟨t156, A90, H⟩ := H
      replace H : (if t155 = t156 then ((bit_Xor.f a0 a1).bind fun t157 => ((bit_Xor.f a1 a0).bind fun t158 => (if t157 = t158 then ((bit_And.f a0 a0).bind fun t159 => ((bit_Buf.f a0).bind fun t160 => (if t159 = t160 then ((bit_Or.f a0 a0).bind fun t161 => (netlablaw01_BitAlgebra.j0 k a0 a1 a2 (t161 != t160))) else (netlablaw01_BitAlgebra.j0 k a0 a1 a2 true)))) else (netlablaw01_BitAlgebra.j0 k a0 a1 a2 true)))) else (netlablaw01_BitAlgebra.j0 k a0 a1 a2 true)) = some r := H
      have A9 := Aside0.mk A90
      clear A90
      by_cases c10 : t155 = t156
      · rw [if_pos c10] at H
        have c10b0 : (t155 == t156) = true := beq_iff_eq.mpr c10
        have c10b1 : (t155 != t156) = false := bne_eq_false_iff_eq.mpr c10
        clear c10
        replace H := Option.bind_eq_some_iff.mp H
        obtain ⟨t157, A110, H⟩ := H
        replace H : ((bit_Xor.f a1 a0).bind fun t158 => (if t157 = t158 then ((bit_And.f a0 a0).bind fun t159 => ((bit_Buf.f a0).bind fun t160 => (if t159 = t160 then ((bit_Or.f a0 a0).bind fun t161 => (netlablaw01_BitAlgebra.j0 k a0 a1 a2 (t161 != t160))) else (netlablaw01_BitAlgebra.j0 k a0 a1 a2 true)))) else (netlablaw01_BitAlgebra.j0 k a0 a1 a2 true))) = some r := H
        have A11 := Aside0.mk A110
        clear A110
        replace H := Option.bind_eq_some_iff.mp H
        obtain ⟨t158, A120, H⟩ := H
        replace H : (if t157 = t158 then ((bit_And.f a0 a0).bind fun t159 => ((bit_Buf.f a0).bind fun t160 => (if t159 = t160 then ((bit_Or.f a0 a0).bind fun t161 => (netlablaw01_BitAlgebra.j0 k a0 a1 a2 (t161 != t160))) else (netlablaw01_BitAlgebra.j0 k a0 a1 a2 true)))) else (netlablaw01_BitAlgebra.j0 k a0 a1 a2 true)) = some r := H
        have A12 := Aside0.mk A120
        clear A120
        by_cases c13 : t157 = t158
        · rw [if_pos c13] at H
          have c13b0 : (t157 == t158) = true := beq_iff_eq.mpr c13
          have c13b1 : (t157 != t158) = false := bne_eq_false_iff_eq.mpr c13
          clear c13
          replace H := Option.bind_eq_some_iff.mp H
          obtain ⟨t159, A140, H⟩ := H
          replace H : ((bit_Buf.f a0).bind fun t160 => (if t159 = t160 then ((bit_Or.f a0 a0).bind fun t161 => (netlablaw01_BitAlgebra.j0 k a0 a1 a2 (t161 != t160))) else (netlablaw01_BitAlgebra.j0 k a0 a1 a2 true))) = some r := H
          have A14 := Aside0.mk A140
          clear A140
          replace H := Option.bind_eq_some_iff.mp H
          obtain ⟨t160, A150, H⟩ := H
          replace H : (if t159 = t160 then ((bit_Or.f a0 a0).bind fun t161 => (netlablaw01_BitAlgebra.j0 k a0 a1 a2 (t161 != t160))) else (netlablaw01_BitAlgebra.j0 k a0 a1 a2 true)) = some r := H
          have A15 := Aside0.mk A150
          clear A150
          by_cases c16 : t159 = t160
          · rw [if_pos c16] at H
            have c16b0 : (t159 == t160) = true := beq_iff_eq.mpr c16
            have c16b1 : (t159 != t160) = false := bne_eq_false_iff_eq.mpr c16
            clear c16
            replace H := Option.bind_eq_some_iff.mp H
            obtain ⟨t161, A170, H⟩ := H
            replace H : (netlablaw01_BitAlgebra.j0 k a0 a1 a2 (t161 != t160)) = some r := H
            have A17 := Aside0.mk A170
            clear A170
            have H' := Aside0.mk H
            clear H
            go_wp2_with (first | (go_at_call 15; (with_reducible refine (bit_And.calls a0 a1 t153 _ (by repeat (first | exact HG.out | apply Glob.drewN | apply Glob.drew)) A5.out).mono ?_); rintro e w' ⟨rfl, ⟨nd, rfl⟩⟩) | (go_at_call 15; (with_reducible refine (bit_And.calls a1 a0 t154 _ (by repeat (first | exact HG.out | apply Glob.drewN | apply Glob.drew)) A6.out).mono ?_); rintro e w' ⟨rfl, ⟨nd, rfl⟩⟩) | (go_at_call 16; (with_reducible refine (bit_Or.calls a0 a1 t155 _ (by repeat (first | exact HG.out | apply Glob.drewN | apply Glob.drew)) A8.out).mono ?_); rintro e w' ⟨rfl, ⟨nd, rfl⟩⟩) | (go_at_call 16; (with_reducible refine (bit_Or.calls a1 a0 t156 _ (by repeat (first | exact HG.out | apply Glob.drewN | apply Glob.drew)) A9.out).mono ?_); rintro e w' ⟨rfl, ⟨nd, rfl⟩⟩) | (go_at_call 17; (with_reducible refine (bit_Xor.calls a0 a1 t157 _ (by repeat (first | exact HG.out | apply Glob.drewN | apply Glob.drew)) A11.out).mono ?_); rintro e w' ⟨rfl, ⟨nd, rfl⟩⟩) | (go_at_call 17; (with_reducible refine (bit_Xor.calls a1 a0 t158 _ (by repeat (first | exact HG.out | apply Glob.drewN | apply Glob.drew)) A12.out).mono ?_); rintro e w' ⟨rfl, ⟨nd, rfl⟩⟩) | (go_at_call 15; (with_reducible refine (bit_And.calls a0 a0 t159 _ (by repeat (first | exact HG.out | apply Glob.drewN | apply Glob.drew)) A14.out).mono ?_); rintro e w' ⟨rfl, ⟨nd, rfl⟩⟩) | (go_at_call 14; (with_reducible refine (bit_Buf.calls a0 t160 _ (by repeat (first | exact HG.out | apply Glob.drewN | apply Glob.drew)) A15.out).mono ?_); rintro e w' ⟨rfl, ⟨nd, rfl⟩⟩) | (go_at_call 16; (with_reducible refine (bit_Or.calls a0 a0 t161 _ (by repeat (first | exact HG.out | apply Glob.drewN | apply Glob.drew)) A17.out).mono ?_); rintro e w' ⟨rfl, ⟨nd, rfl⟩⟩))
            go_meet
            case rel => exact ⟨_, ((t161 != t160)), (by first | rfl | (simp; done) | (simp [*]; done)), H', ⟨by first | omega | exact Nat.le_refl _⟩, by repeat (first | exact Drawn0.refl _ | apply Drawn0.step)⟩
          · rw [if_neg c16] at H
            have c16b0 : (t159 == t160) = false := beq_eq_false_iff_ne.mpr c16
            have c16b1 : (t159 != t160) = true := bne_iff_ne.mpr c16
            have H' := Aside0.mk H
            clear H
            go_wp2_with (first | (go_at_call 15; (with_reducible refine (bit_And.calls a0 a1 t153 _ (by repeat (first | exact HG.out | apply Glob.drewN | apply Glob.drew)) A5.out).mono ?_); rintro e w' ⟨rfl, ⟨nd, rfl⟩⟩) | (go_at_call 15; (with_reducible refine (bit_And.calls a1 a0 t154 _ (by repeat (first | exact HG.out | apply Glob.drewN | apply Glob.drew)) A6.out).mono ?_); rintro e w' ⟨rfl, ⟨nd, rfl⟩⟩) | (go_at_call 16; (with_reducible refine (bit_Or.calls a0 a1 t155 _ (by repeat (first | exact HG.out | apply Glob.drewN | apply Glob.drew)) A8.out).mono ?_); rintro e w' ⟨rfl, ⟨nd, rfl⟩⟩) | (go_at_call 16; (with_reducible refine (bit_Or.calls a1 a0 t156 _ (by repeat (first | exact HG.out | apply Glob.drewN | apply Glob.drew)) A9.out).mono ?_); rintro e w' ⟨rfl, ⟨nd, rfl⟩⟩) | (go_at_call 17; (with_reducible refine (bit_Xor.calls a0 a1 t157 _ (by repeat (first | exact HG.out | apply Glob.drewN | apply Glob.drew)) A11.out).mono ?_); rintro e w' ⟨rfl, ⟨nd, rfl⟩⟩) | (go_at_call 17; (with_reducible refine (bit_Xor.calls a1 a0 t158 _ (by repeat (first | exact HG.out | apply Glob.drewN | apply Glob.drew)) A12.out).mono ?_); rintro e w' ⟨rfl, ⟨nd, rfl⟩⟩) | (go_at_call 15; (with_reducible refine (bit_And.calls a0 a0 t159 _ (by repeat (first | exact HG.out | apply Glob.drewN | apply Glob.drew)) A14.out).mono ?_); rintro e w' ⟨rfl, ⟨nd, rfl⟩⟩) | (go_at_call 14; (with_reducible refine (bit_Buf.calls a0 t160 _ (by repeat (first | exact HG.out | apply Glob.drewN | apply Glob.drew)) A15.out).mono ?_); rintro e w' ⟨rfl, ⟨nd, rfl⟩⟩))
            go_meet
            case rel => exact ⟨_, (true), (by first | rfl | (simp; done) | (simp [*]; done)), H', ⟨by first | omega | exact Nat.le_refl _⟩, by repeat (first | exact Drawn0.refl _ | apply Drawn0.step)⟩
        · rw [if_neg c13] at H
          have c13b0 : (t157 == t158) = false := beq_eq_false_iff_ne.mpr c13
          have c13b1 : (t157 != t158) = true := bne_iff_ne.mpr c13
          have H' := Aside0.mk H
          clear H
          go_wp2_with (first | (go_at_call 15; (with_reducible refine (bit_And.calls a0 a1 t153 _ (by repeat (first | exact HG.out | apply Glob.drewN | apply Glob.drew)) A5.out).mono ?_); rintro e w' ⟨rfl, ⟨nd, rfl⟩⟩) | (go_at_call 15; (with_reducible refine (bit_And.calls a1 a0 t154 _ (by repeat (first | exact HG.out | apply Glob.drewN | apply Glob.drew)) A6.out).mono ?_); rintro e w' ⟨rfl, ⟨nd, rfl⟩⟩) | (go_at_call 16; (with_reducible refine (bit_Or.calls a0 a1 t155 _ (by repeat (first | exact HG.out | apply Glob.drewN | apply Glob.drew)) A8.out).mono ?_); rintro e w' ⟨rfl, ⟨nd, rfl⟩⟩) | (go_at_call 16; (with_reducible refine (bit_Or.calls a1 a0 t156 _ (by repeat (first | exact HG.out | apply Glob.drewN | apply Glob.drew)) A9.out).mono ?_); rintro e w' ⟨rfl, ⟨nd, rfl⟩⟩) | (go_at_call 17; (with_reducible refine (bit_Xor.calls a0 a1 t157 _ (by repeat (first | exact HG.out | apply Glob.drewN | apply Glob.drew)) A11.out).mono ?_); rintro e w' ⟨rfl, ⟨nd, rfl⟩⟩) | (go_at_call 17; (with_reducible refine (bit_Xor.calls a1 a0 t158 _ (by repeat (first | exact HG.out | apply Glob.drewN | apply Glob.drew)) A12.out).mono ?_); rintro e w' ⟨rfl, ⟨nd, rfl⟩⟩))
          go_meet
          case rel => exact ⟨_, (true), (by first | rfl | (simp; done) | (simp [*]; done)), H', ⟨by first | omega | exact Nat.le_refl _⟩, by repeat (first | exact Drawn0.refl _ | apply Drawn0.step)⟩
      · rw [if_neg c10] at H
        have c10b0 : (t155 == t156) = false := beq_eq_false_iff_ne.mpr c10
        have c10b1 : (t155 != t156) = true := bne_iff_ne.mpr c10
        have H' := Aside0.mk H
        clear H
        go_wp2_with (first | (go_at_call 15; (with_reducible refine (bit_And.calls a0 a1 t153 _ (by repeat (first | exact HG.out | apply Glob.drewN | apply Glob.drew)) A5.out).mono ?_); rintro e w' ⟨rfl, ⟨nd, rfl⟩⟩) | (go_at_call 15; (with_reducible refine (bit_And.calls a1 a0 t154 _ (by repeat (first | exact HG.out | apply Glob.drewN | apply Glob.drew)) A6.out).mono ?_); rintro e w' ⟨rfl, ⟨nd, rfl⟩⟩) | (go_at_call 16; (with_reducible refine (bit_Or.calls a0 a1 t155 _ (by repeat (first | exact HG.out | apply Glob.drewN | apply Glob.drew)) A8.out).mono ?_); rintro e w' ⟨rfl, ⟨nd, rfl⟩⟩) | (go_at_call 16; (with_reducible refine (bit_Or.calls a1 a0 t156 _ (by repeat (first | exact HG.out | apply Glob.drewN | apply Glob.drew)) A9.out).mono ?_); rintro e w' ⟨rfl, ⟨nd, rfl⟩⟩))
        go_meet
        case rel => exact ⟨_, (true), (by first | rfl | (simp; done) | (simp [*]; done)), H', ⟨by first | omega | exact Nat.le_refl _⟩, by repeat (first | exact Drawn0.refl _ | apply Drawn0.step)⟩
    · rw [if_neg c7] at H
      have c7b0 : (t153 == t154) = false := beq_eq_false_iff_ne.mpr c7
      have c7b1 : (t153 != t154) = true := bne_iff_ne.mpr c7
      (first | rw [c7b0] | (simp only [i64_w, i32_w]; rw [c7b0]) | skip)
      have H' := Aside0.mk H
      clear H
      go_wp2_with (first | (go_at_call 15; (with_reducible refine (bit_And.calls a0 a1 t153 _ (by repeat (first | exact HG.out | apply Glob.drewN | apply Glob.drew)) A5.out).mono ?_); rintro e w' ⟨rfl, ⟨nd, rfl⟩⟩) | (go_at_call 15; (with_reducible refine (bit_And.calls a1 a0 t154 _ (by repeat (first | exact HG.out | apply Glob.drewN | apply Glob.drew)) A6.out).mono ?_); rintro e w' ⟨rfl, ⟨nd, rfl⟩⟩))
      go_meet
      case rel => exact ⟨_, (true), (by first | rfl | (simp; done) | (simp [*]; done)), H', ⟨by first | omega | exact Nat.le_refl _⟩, by repeat (first | exact Drawn0.refl _ | apply Drawn0.step)⟩
  case rest =>
    clear HC4
    try clear c1
    try clear p2
    try clear c4
    try clear c7
    try clear c7b0
    try clear c7b1
    try clear c10
    try clear c10b0
    try clear c10b1
    try clear c13
    try clear c13b0
    try clear c13b1
    try clear c16
    try clear c16b0
    try clear c16b1
    obtain ⟨kq, x47_3, rfl, HA, HJ3, ⟨mc3, rfl⟩⟩ := hcut
    cases kq with
    | zero => exact absurd HA.out (by simp [netlablaw01_BitAlgebra.j0])
    | succ kj3 =>
      have H := HA.out
      clear HA
      simp only [netlablaw01_BitAlgebra.j0] at H
      by_cases c18 : x47_3 = true
      · subst c18
        have H1 : (some false) = some r := by rw [if_pos rfl] at H; exact H
        clear H
        have H := H1
        clear H1
        obtain rfl := Option.some.inj H
        go_wp2
        go_ret
        exact ⟨by first | rfl | (simp; done) | (simp [*]; done), by repeat (first | exact Drawn0.refl _ | apply Drawn0.step)⟩
      · replace c18 := Bool.eq_false_iff.mpr c18
        subst c18
        have H1 : ((bit_And.f a0 a1).bind fun t162 => ((bit_And.f t162 a2).bind fun t163 => ((bit_And.f a1 a2).bind fun t164 => ((bit_And.f a0 t164).bind fun t165 => (if t163 = t165 then ((bit_Or.f a0 a1).bind fun t166 => ((bit_Or.f t166 a2).bind fun t167 => ((bit_Or.f a1 a2).bind fun t168 => ((bit_Or.f a0 t168).bind fun t169 => (if t167 = t169 then ((bit_Xor.f a0 a1).bind fun t170 => ((bit_Xor.f t170 a2).bind fun t171 => ((bit_Xor.f a1 a2).bind fun t172 => ((bit_Xor.f a0 t172).bind fun t173 => (netlablaw01_BitAlgebra.j1 kj3 a0 a1 a2 (t171 != t173)))))) else (netlablaw01_BitAlgebra.j1 kj3 a0 a1 a2 true)))))) else (netlablaw01_BitAlgebra.j1 kj3 a0 a1 a2 true)))))) = some r := by rw [if_neg (show ¬ (false = true) by decide)] at H; exact H
        clear H
        have H := H1
        clear H1
        have HC19 := Aside0.mk H
        clear H
        go_upto_region 3 with (fail)
        go_cut [84] (fun v84 wc => ∃ (kq : Nat) (x84_18 : Bool), v84 = .bool x84_18 ∧ Aside0 (netlablaw01_BitAlgebra.j1 kq a0 a1 a2 x84_18 = some r) ∧ Aside0 (kq ≤ kj3) ∧ Drawn0 w wc)
        case first =>
          have H := HC19.out
          clear HC19
          replace H := Option.bind_eq_some_iff.mp H
          obtain ⟨t162, A200, H⟩ := H
          replace H : ((bit_And.f t162 a2).bind fun t163 => ((bit_And.f a1 a2).bind fun t164 => ((bit_And.f a0 t164).bind fun t165 => (if t163 = t165 then ((bit_Or.f a0 a1).bind fun t166 => ((bit_Or.f t166 a2).bind fun t167 => ((bit_Or.f a1 a2).bind fun t168 => ((bit_Or.f a0 t168).bind fun t169 => (if t167 = t169 then ((bit_Xor.f a0 a1).bind fun t170 => ((bit_Xor.f t170 a2).bind fun t171 => ((bit_Xor.f a1 a2).bind fun t172 => ((bit_Xor.f a0 t172).bind fun t173 => (netlablaw01_BitAlgebra.j1 kj3 a0 a1 a2 (t171 != t173)))))) else (netlablaw01_BitAlgebra.j1 kj3 a0 a1 a2 true)))))) else (netlablaw01_BitAlgebra.j1 kj3 a0 a1 a2 true))))) = some r := H
          have A20 := Aside0.mk A200
          clear A200
          replace H := Option.bind_eq_some_iff.mp H
          obtain ⟨t163, A210, H⟩ := H
          replace H : ((bit_And.f a1 a2).bind fun t164 => ((bit_And.f a0 t164).bind fun t165 => (if t163 = t165 then ((bit_Or.f a0 a1).bind fun t166 => ((bit_Or.f t166 a2).bind fun t167 => ((bit_Or.f a1 a2).bind fun t168 => ((bit_Or.f a0 t168).bind fun t169 => (if t167 = t169 then ((bit_Xor.f a0 a1).bind fun t170 => ((bit_Xor.f t170 a2).bind fun t171 => ((bit_Xor.f a1 a2).bind fun t172 => ((bit_Xor.f a0 t172).bind fun t173 => (netlablaw01_BitAlgebra.j1 kj3 a0 a1 a2 (t171 != t173)))))) else (netlablaw01_BitAlgebra.j1 kj3 a0 a1 a2 true)))))) else (netlablaw01_BitAlgebra.j1 kj3 a0 a1 a2 true)))) = some r := H
          have A21 := Aside0.mk A210
          clear A210
          replace H := Option.bind_eq_some_iff.mp H
          obtain ⟨t164, A220, H⟩ := H
          replace H : ((bit_And.f a0 t164).bind fun t165 => (if t163 = t165 then ((bit_Or.f a0 a1).bind fun t166 => ((bit_Or.f t166 a2).bind fun t167 => ((bit_Or.f a1 a2).bind fun t168 => ((bit_Or.f a0 t168).bind fun t169 => (if t167 = t169 then ((bit_Xor.f a0 a1).bind fun t170 => ((bit_Xor.f t170 a2).bind fun t171 => ((bit_Xor.f a1 a2).bind fun t172 => ((bit_Xor.f a0 t172).bind fun t173 => (netlablaw01_BitAlgebra.j1 kj3 a0 a1 a2 (t171 != t173)))))) else (netlablaw01_BitAlgebra.j1 kj3 a0 a1 a2 true)))))) else (netlablaw01_BitAlgebra.j1 kj3 a0 a1 a2 true))) = some r := H
          have A22 := Aside0.mk A220
          clear A220
          replace H := Option.bind_eq_some_iff.mp H
          obtain ⟨t165, A230, H⟩ := H
          replace H : (if t163 = t165 then ((bit_Or.f a0 a1).bind fun t166 => ((bit_Or.f t166 a2).bind fun t167 => ((bit_Or.f a1 a2).bind fun t168 => ((bit_Or.f a0 t168).bind fun t169 => (if t167 = t169 then ((bit_Xor.f a0 a1).bind fun t170 => ((bit_Xor.f t170 a2).bind fun t171 => ((bit_Xor.f a1 a2).bind fun t172 => ((bit_Xor.f a0 t172).bind fun t173 => (netlablaw01_BitAlgebra.j1 kj3 a0 a1 a2 (t171 != t173)))))) else (netlablaw01_BitAlgebra.j1 kj3 a0 a1 a2 true)))))) else (netlablaw01_BitAlgebra.j1 kj3 a0 a1 a2 true)) = some r := H
          have A23 := Aside0.mk A230
          clear A230
          by_cases c24 : t163 = t165
          · rw [if_pos c24] at H
            have c24b0 : (t163 == t165) = true := beq_iff_eq.mpr c24
            have c24b1 : (t163 != t165) = false := bne_eq_false_iff_eq.mpr c24
            clear c24
            (first | rw [c24b0] | (simp only [i64_w, i32_w]; rw [c24b0]) | skip)
            replace H := Option.bind_eq_some_iff.mp H
            obtain ⟨t166, A250, H⟩ := H
            replace H : ((bit_Or.f t166 a2).bind fun t167 => ((bit_Or.f a1 a2).bind fun t168 => ((bit_Or.f a0 t168).bind fun t169 => (if t167 = t169 then ((bit_Xor.f a0 a1).bind fun t170 => ((bit_Xor.f t170 a2).bind fun t171 => ((bit_Xor.f a1 a2).bind fun t172 => ((bit_Xor.f a0 t172).bind fun t173 => (netlablaw01_BitAlgebra.j1 kj3 a0 a1 a2 (t171 != t173)))))) else (netlablaw01_BitAlgebra.j1 kj3 a0 a1 a2 true))))) = some r := H
            have A25 := Aside0.mk A250
            clear A250
            replace H := Option.bind_eq_some_iff.mp H
            obtain ⟨t167, A260, H⟩ := H
            replace H : ((bit_Or.f a1 a2).bind fun t168 => ((bit_Or.f a0 t168).bind fun t169 => (if t167 = t169 then ((bit_Xor.f a0 a1).bind fun t170 => ((bit_Xor.f t170 a2).bind fun t171 => ((bit_Xor.f a1 a2).bind fun t172 => ((bit_Xor.f a0 t172).bind fun t173 => (netlablaw01_BitAlgebra.j1 kj3 a0 a1 a2 (t171 != t173)))))) else (netlablaw01_BitAlgebra.j1 kj3 a0 a1 a2 true)))) = some r := H
            have A26 := Aside0.mk A260
            clear A260
            replace H := Option.bind_eq_some_iff.mp H
            obtain ⟨t168, A270, H⟩ := H
            replace H : ((bit_Or.f a0 t168).bind fun t169 => (if t167 = t169 then ((bit_Xor.f a0 a1).bind fun t170 => ((bit_Xor.f t170 a2).bind fun t171 => ((bit_Xor.f a1 a2).bind fun t172 => ((bit_Xor.f a0 t172).bind fun t173 => (netlablaw01_BitAlgebra.j1 kj3 a0 a1 a2 (t171 != t173)))))) else (netlablaw01_BitAlgebra.j1 kj3 a0 a1 a2 true))) = some r := H
            have A27 := Aside0.mk A270
            clear A270
            replace H := Option.bind_eq_some_iff.mp H
            obtain ⟨t169, A280, H⟩ := H
            replace H : (if t167 = t169 then ((bit_Xor.f a0 a1).bind fun t170 => ((bit_Xor.f t170 a2).bind fun t171 => ((bit_Xor.f a1 a2).bind fun t172 => ((bit_Xor.f a0 t172).bind fun t173 => (netlablaw01_BitAlgebra.j1 kj3 a0 a1 a2 (t171 != t173)))))) else (netlablaw01_BitAlgebra.j1 kj3 a0 a1 a2 true)) = some r := H
            have A28 := Aside0.mk A280
            clear A280
            by_cases c29 : t167 = t169
            · rw [if_pos c29] at H
              have c29b0 : (t167 == t169) = true := beq_iff_eq.mpr c29
              have c29b1 : (t167 != t169) = false := bne_eq_false_iff_eq.mpr c29
              clear c29
              replace H := Option.bind_eq_some_iff.mp H
              obtain ⟨t170, A300, H⟩ := H
              replace H : ((bit_Xor.f t170 a2).bind fun t171 => ((bit_Xor.f a1 a2).bind fun t172 => ((bit_Xor.f a0 t172).bind fun t173 => (netlablaw01_BitAlgebra.j1 kj3 a0 a1 a2 (t171 != t173))))) = some r := H
              have A30 := Aside0.mk A300
              clear A300
              replace H := Option.bind_eq_some_iff.mp H
              obtain ⟨t171, A310, H⟩ := H
              replace H : ((bit_Xor.f a1 a2).bind fun t172 => ((bit_Xor.f a0 t172).bind fun t173 => (netlablaw01_BitAlgebra.j1 kj3 a0 a1 a2 (t171 != t173)))) = some r := H
              have A31 := Aside0.mk A310
              clear A310
              replace H := Option.bind_eq_some_iff.mp H
              obtain ⟨t172, A320, H⟩ := H
              replace H : ((bit_Xor.f a0 t172).bind fun t173 => (netlablaw01_BitAlgebra.j1 kj3 a0 a1 a2 (t171 != t173))) = some r := H
              have A32 := Aside0.mk A320
              clear A320
              replace H := Option.bind_eq_some_iff.mp H
              obtain ⟨t173, A330, H⟩ := H
              replace H : (netlablaw01_BitAlgebra.j1 kj3 a0 a1 a2 (t171 != t173)) = some r := H
              have A33 := Aside0.mk A330
              clear A330
              have H' := Aside0.mk H
              clear H
              go_wp2_with (first | (go_at_call 15; (with_reducible refine (bit_And.calls a0 a1 t162 _ (by repeat (first | exact HG.out | apply Glob.drewN | apply Glob.drew)) A20.out).mono ?_); rintro e w' ⟨rfl, ⟨nd, rfl⟩⟩) | (go_at_call 15; (with_reducible refine (bit_And.calls t162 a2 t163 _ (by repeat (first | exact HG.out | apply Glob.drewN | apply Glob.drew)) A21.out).mono ?_); rintro e w' ⟨rfl, ⟨nd, rfl⟩⟩) | (go_at_call 15; (with_reducible refine (bit_And.calls a1 a2 t164 _ (by repeat (first | exact HG.out | apply Glob.drewN | apply Glob.drew)) A22.out).mono ?_); rintro e w' ⟨rfl, ⟨nd, rfl⟩⟩) | (go_at_call 15; (with_reducible refine (bit_And.calls a0 t164 t165 _ (by repeat (first | exact HG.out | apply Glob.drewN | apply Glob.drew)) A23.out).mono ?_); rintro e w' ⟨rfl, ⟨nd, rfl⟩⟩) | (go_at_call 16; (with_reducible refine (bit_Or.calls a0 a1 t166 _ (by repeat (first | exact HG.out | apply Glob.drewN | apply Glob.drew)) A25.out).mono ?_); rintro e w' ⟨rfl, ⟨nd, rfl⟩⟩) | (go_at_call 16; (with_reducible refine (bit_Or.calls t166 a2 t167 _ (by repeat (first | exact HG.out | apply Glob.drewN | apply Glob.drew)) A26.out).mono ?_); rintro e w' ⟨rfl, ⟨nd, rfl⟩⟩) | (go_at_call 16; (with_reducible refine (bit_Or.calls a1 a2 t168 _ (by repeat (first | exact HG.out | apply Glob.drewN | apply Glob.drew)) A27.out).mono ?_); rintro e w' ⟨rfl, ⟨nd, rfl⟩⟩) | (go_at_call 16; (with_reducible refine (bit_Or.calls a0 t168 t169 _ (by repeat (first | exact HG.out | apply Glob.drewN | apply Glob.drew)) A28.out).mono ?_); rintro e w' ⟨rfl, ⟨nd, rfl⟩⟩) | (go_at_call 17; (with_reducible refine (bit_Xor.calls a0 a1 t170 _ (by repeat (first | exact HG.out | apply Glob.drewN | apply Glob.drew)) A30.out).mono ?_); rintro e w' ⟨rfl, ⟨nd, rfl⟩⟩) | (go_at_call 17; (with_reducible refine (bit_Xor.calls t170 a2 t171 _ (by repeat (first | exact HG.out | apply Glob.drewN | apply Glob.drew)) A31.out).mono ?_); rintro e w' ⟨rfl, ⟨nd, rfl⟩⟩) | (go_at_call 17; (with_reducible refine (bit_Xor.calls a1 a2 t172 _ (by repeat (first | exact HG.out | apply Glob.drewN | apply Glob.drew)) A32.out).mono ?_); rintro e w' ⟨rfl, ⟨nd, rfl⟩⟩) | (go_at_call 17; (with_reducible refine (bit_Xor.calls a0 t172 t173 _ (by repeat (first | exact HG.out | apply Glob.drewN | apply Glob.drew)) A33.out).mono ?_); rintro e w' ⟨rfl, ⟨nd, rfl⟩⟩))
              go_meet
              case rel => exact ⟨_, ((t171 != t173)), (by first | rfl | (simp; done) | (simp [*]; done)), H', ⟨by have := HJ3.out; first | omega | exact Nat.le_refl _⟩, by repeat (first | exact Drawn0.refl _ | apply Drawn0.step)⟩
            · rw [if_neg c29] at H
              have c29b0 : (t167 == t169) = false := beq_eq_false_iff_ne.mpr c29
              have c29b1 : (t167 != t169) = true := bne_iff_ne.mpr c29
              have H' := Aside0.mk H
              clear H
              go_wp2_with (first | (go_at_call 15; (with_reducible refine (bit_And.calls a0 a1 t162 _ (by repeat (first | exact HG.out | apply Glob.drewN | apply Glob.drew)) A20.out).mono ?_); rintro e w' ⟨rfl, ⟨nd, rfl⟩⟩) | (go_at_call 15; (with_reducible refine (bit_And.calls t162 a2 t163 _ (by repeat (first | exact HG.out | apply Glob.drewN | apply Glob.drew)) A21.out).mono ?_); rintro e w' ⟨rfl, ⟨nd, rfl⟩⟩) | (go_at_call 15; (with_reducible refine (bit_And.calls a1 a2 t164 _ (by repeat (first | exact HG.out | apply Glob.drewN | apply Glob.drew)) A22.out).mono ?_); rintro e w' ⟨rfl, ⟨nd, rfl⟩⟩) | (go_at_call 15; (with_reducible refine (bit_And.calls a0 t164 t165 _ (by repeat (first | exact HG.out | apply Glob.drewN | apply Glob.drew)) A23.out).mono ?_); rintro e w' ⟨rfl, ⟨nd, rfl⟩⟩) | (go_at_call 16; (with_reducible refine (bit_Or.calls a0 a1 t166 _ (by repeat (first | exact HG.out | apply Glob.drewN | apply Glob.drew)) A25.out).mono ?_); rintro e w' ⟨rfl, ⟨nd, rfl⟩⟩) | (go_at_call 16; (with_reducible refine (bit_Or.calls t166 a2 t167 _ (by repeat (first | exact HG.out | apply Glob.drewN | apply Glob.drew)) A26.out).mono ?_); rintro e w' ⟨rfl, ⟨nd, rfl⟩⟩) | (go_at_call 16; (with_reducible refine (bit_Or.calls a1 a2 t168 _ (by repeat (first | exact HG.out | apply Glob.drewN | apply Glob.drew)) A27.out).mono ?_); rintro e w' ⟨rfl, ⟨nd, rfl⟩⟩) | (go_at_call 16; (with_reducible refine (bit_Or.calls a0 t168 t169 _ (by repeat (first | exact HG.out | apply Glob.drewN | apply Glob.drew)) A28.out).mono ?_); rintro e w' ⟨rfl, ⟨nd, rfl⟩⟩))
              go_meet
              case rel => exact ⟨_, (true), (by first | rfl | (simp; done) | (simp [*]; done)), H', ⟨by have := HJ3.out; first | omega | exact Nat.le_refl _⟩, by repeat (first | exact Drawn0.refl _ | apply Drawn0.step)⟩
          · rw [if_neg c24] at H
            have c24b0 : (t163 == t165) = false := beq_eq_false_iff_ne.mpr c24
            have c24b1 : (t163 != t165) = true := bne_iff_ne.mpr c24
            (first | rw [c24b0] | (simp only [i64_w, i32_w]; rw [c24b0]) | skip)
            have H' := Aside0.mk H
            clear H
            go_wp2_with (first | (go_at_call 15; (with_reducible refine (bit_And.calls a0 a1 t162 _ (by repeat (first | exact HG.out | apply Glob.drewN | apply Glob.drew)) A20.out).mono ?_); rintro e w' ⟨rfl, ⟨nd, rfl⟩⟩) | (go_at_call 15; (with_reducible refine (bit_And.calls t162 a2 t163 _ (by repeat (first | exact HG.out | apply Glob.drewN | apply Glob.drew)) A21.out).mono ?_); rintro e w' ⟨rfl, ⟨nd, rfl⟩⟩) | (go_at_call 15; (with_reducible refine (bit_And.calls a1 a2 t164 _ (by repeat (first | exact HG.out | apply Glob.drewN | apply Glob.drew)) A22.out).mono ?_); rintro e w' ⟨rfl, ⟨nd, rfl⟩⟩) | (go_at_call 15; (with_reducible refine (bit_And.calls a0 t164 t165 _ (by repeat (first | exact HG.out | apply Glob.drewN | apply Glob.drew)) A23.out).mono ?_); rintro e w' ⟨rfl, ⟨nd, rfl⟩⟩))
            go_meet
            case rel => exact ⟨_, (true), (by first | rfl | (simp; done) | (simp [*]; done)), H', ⟨by have := HJ3.out; first | omega | exact Nat.le_refl _⟩, by repeat (first | exact Drawn0.refl _ | apply Drawn0.step)⟩
        case rest =>
          clear HC19
          try clear c1
          try clear c2
          try clear p2
          try clear c3
          try clear c4
          try clear c7
          try clear c7b0
          try clear c7b1
          try clear c10
          try clear c10b0
          try clear c10b1
          try clear c13
          try clear c13b0
          try clear c13b1
          try clear c16
          try clear c16b0
          try clear c16b1
          try clear c18
          try clear c24
          try clear c24b0
          try clear c24b1
          try clear c29
          try clear c29b0
          try clear c29b1
          try clear p2
          obtain ⟨kq, x84_18, rfl, HA, HJ18, ⟨mc18, rfl⟩⟩ := hcut
          cases kq with
          | zero => exact absurd HA.out (by simp [netlablaw01_BitAlgebra.j1])
          | succ kj18 =>
            have H := HA.out
            clear HA
            simp only [netlablaw01_BitAlgebra.j1] at H
            by_cases c34 : x84_18 = true
            · subst c34
              have H1 : (some false) = some r := by rw [if_pos rfl] at H; exact H
              clear H
              have H := H1
              clear H1
              obtain rfl := Option.some.inj H
              go_wp2
              go_ret
              exact ⟨by first | rfl | (simp; done) | (simp [*]; done), by repeat (first | exact Drawn0.refl _ | apply Drawn0.step)⟩
            · replace c34 := Bool.eq_false_iff.mpr c34
              subst c34
              have H1 : ((bit_Or.f a1 a2).bind fun t174 => ((bit_And.f a0 t174).bind fun t175 => ((bit_And.f a0 a1).bind fun t176 => ((bit_And.f a0 a2).bind fun t177 => ((bit_Or.f t176 t177).bind fun t178 => (if t175 = t178 then ((bit_And.f a1 a2).bind fun t179 => ((bit_Or.f a0 t179).bind fun t180 => ((bit_Or.f a0 a1).bind fun t181 => ((bit_Or.f a0 a2).bind fun t182 => ((bit_And.f t181 t182).bind fun t183 => (if t180 = t183 then ((bit_Not.f t176).bind fun t184 => ((bit_Not.f a0).bind fun t185 => ((bit_Not.f a1).bind fun t186 => ((bit_Or.f t185 t186).bind fun t187 => (if t184 = t187 then ((bit_Not.f t181).bind fun t188 => ((bit_And.f t185 t186).bind fun t189 => (if t188 = t189 then ((netlablaw01_awake.f kj18).bind fun t190 => (some t190)) else (some false)))) else (some false)))))) else (some false))))))) else (some false))))))) = some r := by rw [if_neg (show ¬ (false = true) by decide)] at H; exact H
              clear H
              have H := H1
              clear H1
              replace H := Option.bind_eq_some_iff.mp H
              obtain ⟨t174, A350, H⟩ := H
              replace H : ((bit_And.f a0 t174).bind fun t175 => ((bit_And.f a0 a1).bind fun t176 => ((bit_And.f a0 a2).bind fun t177 => ((bit_Or.f t176 t177).bind fun t178 => (if t175 = t178 then ((bit_And.f a1 a2).bind fun t179 => ((bit_Or.f a0 t179).bind fun t180 => ((bit_Or.f a0 a1).bind fun t181 => ((bit_Or.f a0 a2).bind fun t182 => ((bit_And.f t181 t182).bind fun t183 => (if t180 = t183 then ((bit_Not.f t176).bind fun t184 => ((bit_Not.f a0).bind fun t185 => ((bit_Not.f a1).bind fun t186 => ((bit_Or.f t185 t186).bind fun t187 => (if t184 = t187 then ((bit_Not.f t181).bind fun t188 => ((bit_And.f t185 t186).bind fun t189 => (if t188 = t189 then ((netlablaw01_awake.f kj18).bind fun t190 => (some t190)) else (some false)))) else (some false)))))) else (some false))))))) else (some false)))))) = some r := H
              have A35 := Aside0.mk A350
              clear A350
              replace H := Option.bind_eq_some_iff.mp H
              obtain ⟨t175, A360, H⟩ := H
              replace H : ((bit_And.f a0 a1).bind fun t176 => ((bit_And.f a0 a2).bind fun t177 => ((bit_Or.f t176 t177).bind fun t178 => (if t175 = t178 then ((bit_And.f a1 a2).bind fun t179 => ((bit_Or.f a0 t179).bind fun t180 => ((bit_Or.f a0 a1).bind fun t181 => ((bit_Or.f a0 a2).bind fun t182 => ((bit_And.f t181 t182).bind fun t183 => (if t180 = t183 then ((bit_Not.f t176).bind fun t184 => ((bit_Not.f a0).bind fun t185 => ((bit_Not.f a1).bind fun t186 => ((bit_Or.f t185 t186).bind fun t187 => (if t184 = t187 then ((bit_Not.f t181).bind fun t188 => ((bit_And.f t185 t186).bind fun t189 => (if t188 = t189 then ((netlablaw01_awake.f kj18).bind fun t190 => (some t190)) else (some false)))) else (some false)))))) else (some false))))))) else (some false))))) = some r := H
              have A36 := Aside0.mk A360
              clear A360
              replace H := Option.bind_eq_some_iff.mp H
              obtain ⟨t176, A370, H⟩ := H
              replace H : ((bit_And.f a0 a2).bind fun t177 => ((bit_Or.f t176 t177).bind fun t178 => (if t175 = t178 then ((bit_And.f a1 a2).bind fun t179 => ((bit_Or.f a0 t179).bind fun t180 => ((bit_Or.f a0 a1).bind fun t181 => ((bit_Or.f a0 a2).bind fun t182 => ((bit_And.f t181 t182).bind fun t183 => (if t180 = t183 then ((bit_Not.f t176).bind fun t184 => ((bit_Not.f a0).bind fun t185 => ((bit_Not.f a1).bind fun t186 => ((bit_Or.f t185 t186).bind fun t187 => (if t184 = t187 then ((bit_Not.f t181).bind fun t188 => ((bit_And.f t185 t186).bind fun t189 => (if t188 = t189 then ((netlablaw01_awake.f kj18).bind fun t190 => (some t190)) else (some false)))) else (some false)))))) else (some false))))))) else (some false)))) = some r := H
              have A37 := Aside0.mk A370
              clear A370
              replace H := Option.bind_eq_some_iff.mp H
              obtain ⟨t177, A380, H⟩ := H
              replace H : ((bit_Or.f t176 t177).bind fun t178 => (if t175 = t178 then ((bit_And.f a1 a2).bind fun t179 => ((bit_Or.f a0 t179).bind fun t180 => ((bit_Or.f a0 a1).bind fun t181 => ((bit_Or.f a0 a2).bind fun t182 => ((bit_And.f t181 t182).bind fun t183 => (if t180 = t183 then ((bit_Not.f t176).bind fun t184 => ((bit_Not.f a0).bind fun t185 => ((bit_Not.f a1).bind fun t186 => ((bit_Or.f t185 t186).bind fun t187 => (if t184 = t187 then ((bit_Not.f t181).bind fun t188 => ((bit_And.f t185 t186).bind fun t189 => (if t188 = t189 then ((netlablaw01_awake.f kj18).bind fun t190 => (some t190)) else (some false)))) else (some false)))))) else (some false))))))) else (some false))) = some r := H
              have A38 := Aside0.mk A380
              clear A380
              replace H := Option.bind_eq_some_iff.mp H
              obtain ⟨t178, A390, H⟩ := H
              replace H : (if t175 = t178 then ((bit_And.f a1 a2).bind fun t179 => ((bit_Or.f a0 t179).bind fun t180 => ((bit_Or.f a0 a1).bind fun t181 => ((bit_Or.f a0 a2).bind fun t182 => ((bit_And.f t181 t182).bind fun t183 => (if t180 = t183 then ((bit_Not.f t176).bind fun t184 => ((bit_Not.f a0).bind fun t185 => ((bit_Not.f a1).bind fun t186 => ((bit_Or.f t185 t186).bind fun t187 => (if t184 = t187 then ((bit_Not.f t181).bind fun t188 => ((bit_And.f t185 t186).bind fun t189 => (if t188 = t189 then ((netlablaw01_awake.f kj18).bind fun t190 => (some t190)) else (some false)))) else (some false)))))) else (some false))))))) else (some false)) = some r := H
              have A39 := Aside0.mk A390
              clear A390
              by_cases c40 : t175 = t178
              · rw [if_pos c40] at H
                have c40b0 : (t175 == t178) = true := beq_iff_eq.mpr c40
                have c40b1 : (t175 != t178) = false := bne_eq_false_iff_eq.mpr c40
                clear c40
                replace H := Option.bind_eq_some_iff.mp H
                obtain ⟨t179, A410, H⟩ := H
                replace H : ((bit_Or.f a0 t179).bind fun t180 => ((bit_Or.f a0 a1).bind fun t181 => ((bit_Or.f a0 a2).bind fun t182 => ((bit_And.f t181 t182).bind fun t183 => (if t180 = t183 then ((bit_Not.f t176).bind fun t184 => ((bit_Not.f a0).bind fun t185 => ((bit_Not.f a1).bind fun t186 => ((bit_Or.f t185 t186).bind fun t187 => (if t184 = t187 then ((bit_Not.f t181).bind fun t188 => ((bit_And.f t185 t186).bind fun t189 => (if t188 = t189 then ((netlablaw01_awake.f kj18).bind fun t190 => (some t190)) else (some false)))) else (some false)))))) else (some false)))))) = some r := H
                have A41 := Aside0.mk A410
                clear A410
                replace H := Option.bind_eq_some_iff.mp H
                obtain ⟨t180, A420, H⟩ := H
                replace H : ((bit_Or.f a0 a1).bind fun t181 => ((bit_Or.f a0 a2).bind fun t182 => ((bit_And.f t181 t182).bind fun t183 => (if t180 = t183 then ((bit_Not.f t176).bind fun t184 => ((bit_Not.f a0).bind fun t185 => ((bit_Not.f a1).bind fun t186 => ((bit_Or.f t185 t186).bind fun t187 => (if t184 = t187 then ((bit_Not.f t181).bind fun t188 => ((bit_And.f t185 t186).bind fun t189 => (if t188 = t189 then ((netlablaw01_awake.f kj18).bind fun t190 => (some t190)) else (some false)))) else (some false)))))) else (some false))))) = some r := H
                have A42 := Aside0.mk A420
                clear A420
                replace H := Option.bind_eq_some_iff.mp H
                obtain ⟨t181, A430, H⟩ := H
                replace H : ((bit_Or.f a0 a2).bind fun t182 => ((bit_And.f t181 t182).bind fun t183 => (if t180 = t183 then ((bit_Not.f t176).bind fun t184 => ((bit_Not.f a0).bind fun t185 => ((bit_Not.f a1).bind fun t186 => ((bit_Or.f t185 t186).bind fun t187 => (if t184 = t187 then ((bit_Not.f t181).bind fun t188 => ((bit_And.f t185 t186).bind fun t189 => (if t188 = t189 then ((netlablaw01_awake.f kj18).bind fun t190 => (some t190)) else (some false)))) else (some false)))))) else (some false)))) = some r := H
                have A43 := Aside0.mk A430
                clear A430
                replace H := Option.bind_eq_some_iff.mp H
                obtain ⟨t182, A440, H⟩ := H
                replace H : ((bit_And.f t181 t182).bind fun t183 => (if t180 = t183 then ((bit_Not.f t176).bind fun t184 => ((bit_Not.f a0).bind fun t185 => ((bit_Not.f a1).bind fun t186 => ((bit_Or.f t185 t186).bind fun t187 => (if t184 = t187 then ((bit_Not.f t181).bind fun t188 => ((bit_And.f t185 t186).bind fun t189 => (if t188 = t189 then ((netlablaw01_awake.f kj18).bind fun t190 => (some t190)) else (some false)))) else (some false)))))) else (some false))) = some r := H
                have A44 := Aside0.mk A440
                clear A440
                replace H := Option.bind_eq_some_iff.mp H
                obtain ⟨t183, A450, H⟩ := H
                replace H : (if t180 = t183 then ((bit_Not.f t176).bind fun t184 => ((bit_Not.f a0).bind fun t185 => ((bit_Not.f a1).bind fun t186 => ((bit_Or.f t185 t186).bind fun t187 => (if t184 = t187 then ((bit_Not.f t181).bind fun t188 => ((bit_And.f t185 t186).bind fun t189 => (if t188 = t189 then ((netlablaw01_awake.f kj18).bind fun t190 => (some t190)) else (some false)))) else (some false)))))) else (some false)) = some r := H
                have A45 := Aside0.mk A450
                clear A450
                by_cases c46 : t180 = t183
                · rw [if_pos c46] at H
                  have c46b0 : (t180 == t183) = true := beq_iff_eq.mpr c46
                  have c46b1 : (t180 != t183) = false := bne_eq_false_iff_eq.mpr c46
                  clear c46
                  replace H := Option.bind_eq_some_iff.mp H
                  obtain ⟨t184, A470, H⟩ := H
                  replace H : ((bit_Not.f a0).bind fun t185 => ((bit_Not.f a1).bind fun t186 => ((bit_Or.f t185 t186).bind fun t187 => (if t184 = t187 then ((bit_Not.f t181).bind fun t188 => ((bit_And.f t185 t186).bind fun t189 => (if t188 = t189 then ((netlablaw01_awake.f kj18).bind fun t190 => (some t190)) else (some false)))) else (some false))))) = some r := H
                  have A47 := Aside0.mk A470
                  clear A470
                  replace H := Option.bind_eq_some_iff.mp H
                  obtain ⟨t185, A480, H⟩ := H
                  replace H : ((bit_Not.f a1).bind fun t186 => ((bit_Or.f t185 t186).bind fun t187 => (if t184 = t187 then ((bit_Not.f t181).bind fun t188 => ((bit_And.f t185 t186).bind fun t189 => (if t188 = t189 then ((netlablaw01_awake.f kj18).bind fun t190 => (some t190)) else (some false)))) else (some false)))) = some r := H
                  have A48 := Aside0.mk A480
                  clear A480
                  replace H := Option.bind_eq_some_iff.mp H
                  obtain ⟨t186, A490, H⟩ := H
                  replace H : ((bit_Or.f t185 t186).bind fun t187 => (if t184 = t187 then ((bit_Not.f t181).bind fun t188 => ((bit_And.f t185 t186).bind fun t189 => (if t188 = t189 then ((netlablaw01_awake.f kj18).bind fun t190 => (some t190)) else (some false)))) else (some false))) = some r := H
                  have A49 := Aside0.mk A490
                  clear A490
                  replace H := Option.bind_eq_some_iff.mp H
                  obtain ⟨t187, A500, H⟩ := H
                  replace H : (if t184 = t187 then ((bit_Not.f t181).bind fun t188 => ((bit_And.f t185 t186).bind fun t189 => (if t188 = t189 then ((netlablaw01_awake.f kj18).bind fun t190 => (some t190)) else (some false)))) else (some false)) = some r := H
                  have A50 := Aside0.mk A500
                  clear A500
                  by_cases c51 : t184 = t187
                  · rw [if_pos c51] at H
                    have c51b0 : (t184 == t187) = true := beq_iff_eq.mpr c51
                    have c51b1 : (t184 != t187) = false := bne_eq_false_iff_eq.mpr c51
                    clear c51
                    replace H := Option.bind_eq_some_iff.mp H
                    obtain ⟨t188, A520, H⟩ := H
                    replace H : ((bit_And.f t185 t186).bind fun t189 => (if t188 = t189 then ((netlablaw01_awake.f kj18).bind fun t190 => (some t190)) else (some false))) = some r := H
                    have A52 := Aside0.mk A520
                    clear A520
                    replace H := Option.bind_eq_some_iff.mp H
                    obtain ⟨t189, A530, H⟩ := H
                    replace H : (if t188 = t189 then ((netlablaw01_awake.f kj18).bind fun t190 => (some t190)) else (some false)) = some r := H
                    have A53 := Aside0.mk A530
                    clear A530
                    by_cases c54 : t188 = t189
                    · rw [if_pos c54] at H
                      have c54b0 : (t188 == t189) = true := beq_iff_eq.mpr c54
                      have c54b1 : (t188 != t189) = false := bne_eq_false_iff_eq.mpr c54
                      clear c54
                      replace H := Option.bind_eq_some_iff.mp H
                      obtain ⟨t190, A550, H⟩ := H
                      replace H : (some t190) = some r := H
                      have A55 := Aside0.mk A550
                      clear A550
                      obtain rfl := Option.some.inj H
                      go_wp2_with (first | (go_at_call 16; (with_reducible refine (bit_Or.calls a1 a2 t174 _ (by repeat (first | exact HG.out | apply Glob.drewN | apply Glob.drew)) A35.out).mono ?_); rintro e w' ⟨rfl, ⟨nd, rfl⟩⟩) | (go_at_call 15; (with_reducible refine (bit_And.calls a0 t174 t175 _ (by repeat (first | exact HG.out | apply Glob.drewN | apply Glob.drew)) A36.out).mono ?_); rintro e w' ⟨rfl, ⟨nd, rfl⟩⟩) | (go_at_call 15; (with_reducible refine (bit_And.calls a0 a1 t176 _ (by repeat (first | exact HG.out | apply Glob.drewN | apply Glob.drew)) A37.out).mono ?_); rintro e w' ⟨rfl, ⟨nd, rfl⟩⟩) | (go_at_call 15; (with_reducible refine (bit_And.calls a0 a2 t177 _ (by repeat (first | exact HG.out | apply Glob.drewN | apply Glob.drew)) A38.out).mono ?_); rintro e w' ⟨rfl, ⟨nd, rfl⟩⟩) | (go_at_call 16; (with_reducible refine (bit_Or.calls t176 t177 t178 _ (by repeat (first | exact HG.out | apply Glob.drewN | apply Glob.drew)) A39.out).mono ?_); rintro e w' ⟨rfl, ⟨nd, rfl⟩⟩) | (go_at_call 15; (with_reducible refine (bit_And.calls a1 a2 t179 _ (by repeat (first | exact HG.out | apply Glob.drewN | apply Glob.drew)) A41.out).mono ?_); rintro e w' ⟨rfl, ⟨nd, rfl⟩⟩) | (go_at_call 16; (with_reducible refine (bit_Or.calls a0 t179 t180 _ (by repeat (first | exact HG.out | apply Glob.drewN | apply Glob.drew)) A42.out).mono ?_); rintro e w' ⟨rfl, ⟨nd, rfl⟩⟩) | (go_at_call 16; (with_reducible refine (bit_Or.calls a0 a1 t181 _ (by repeat (first | exact HG.out | apply Glob.drewN | apply Glob.drew)) A43.out).mono ?_); rintro e w' ⟨rfl, ⟨nd, rfl⟩⟩) | (go_at_call 16; (with_reducible refine (bit_Or.calls a0 a2 t182 _ (by repeat (first | exact HG.out | apply Glob.drewN | apply Glob.drew)) A44.out).mono ?_); rintro e w' ⟨rfl, ⟨nd, rfl⟩⟩) | (go_at_call 15; (with_reducible refine (bit_And.calls t181 t182 t183 _ (by repeat (first | exact HG.out | apply Glob.drewN | apply Glob.drew)) A45.out).mono ?_); rintro e w' ⟨rfl, ⟨nd, rfl⟩⟩) | (go_at_call 13; (with_reducible refine (bit_Not.calls t176 t184 _ (by repeat (first | exact HG.out | apply Glob.drewN | apply Glob.drew)) A47.out).mono ?_); rintro e w' ⟨rfl, ⟨nd, rfl⟩⟩) | (go_at_call 13; (with_reducible refine (bit_Not.calls a0 t185 _ (by repeat (first | exact HG.out | apply Glob.drewN | apply Glob.drew)) A48.out).mono ?_); rintro e w' ⟨rfl, ⟨nd, rfl⟩⟩) | (go_at_call 13; (with_reducible refine (bit_Not.calls a1 t186 _ (by repeat (first | exact HG.out | apply Glob.drewN | apply Glob.drew)) A49.out).mono ?_); rintro e w' ⟨rfl, ⟨nd, rfl⟩⟩) | (go_at_call 16; (with_reducible refine (bit_Or.calls t185 t186 t187 _ (by repeat (first | exact HG.out | apply Glob.drewN | apply Glob.drew)) A50.out).mono ?_); rintro e w' ⟨rfl, ⟨nd, rfl⟩⟩) | (go_at_call 13; (with_reducible refine (bit_Not.calls t181 t188 _ (by repeat (first | exact HG.out | apply Glob.drewN | apply Glob.drew)) A52.out).mono ?_); rintro e w' ⟨rfl, ⟨nd, rfl⟩⟩) | (go_at_call 15; (with_reducible refine (bit_And.calls t185 t186 t189 _ (by repeat (first | exact HG.out | apply Glob.drewN | apply Glob.drew)) A53.out).mono ?_); rintro e w' ⟨rfl, ⟨nd, rfl⟩⟩) | (go_at_call 12; (with_reducible refine (netlablaw01_awake.calls kj18  t190 _ (by repeat (first | exact HG.out | apply Glob.drewN | apply Glob.drew)) A55.out).mono ?_); rintro e w' ⟨rfl, ⟨nd, rfl⟩⟩))
                      go_ret
                      exact ⟨by first | rfl | (simp; done) | (simp [*]; done), by repeat (first | exact Drawn0.refl _ | apply Drawn0.step)⟩
                    · rw [if_neg c54] at H
                      have c54b0 : (t188 == t189) = false := beq_eq_false_iff_ne.mpr c54
                      have c54b1 : (t188 != t189) = true := bne_iff_ne.mpr c54
                      obtain rfl := Option.some.inj H
                      go_wp2_with (first | (go_at_call 16; (with_reducible refine (bit_Or.calls a1 a2 t174 _ (by repeat (first | exact HG.out | apply Glob.drewN | apply Glob.drew)) A35.out).mono ?_); rintro e w' ⟨rfl, ⟨nd, rfl⟩⟩) | (go_at_call 15; (with_reducible refine (bit_And.calls a0 t174 t175 _ (by repeat (first | exact HG.out | apply Glob.drewN | apply Glob.drew)) A36.out).mono ?_); rintro e w' ⟨rfl, ⟨nd, rfl⟩⟩) | (go_at_call 15; (with_reducible refine (bit_And.calls a0 a1 t176 _ (by repeat (first | exact HG.out | apply Glob.drewN | apply Glob.drew)) A37.out).mono ?_); rintro e w' ⟨rfl, ⟨nd, rfl⟩⟩) | (go_at_call 15; (with_reducible refine (bit_And.calls a0 a2 t177 _ (by repeat (first | exact HG.out | apply Glob.drewN | apply Glob.drew)) A38.out).mono ?_); rintro e w' ⟨rfl, ⟨nd, rfl⟩⟩) | (go_at_call 16; (with_reducible refine (bit_Or.calls t176 t177 t178 _ (by repeat (first | exact HG.out | apply Glob.drewN | apply Glob.drew)) A39.out).mono ?_); rintro e w' ⟨rfl, ⟨nd, rfl⟩⟩) | (go_at_call 15; (with_reducible refine (bit_And.calls a1 a2 t179 _ (by repeat (first | exact HG.out | apply Glob.drewN | apply Glob.drew)) A41.out).mono ?_); rintro e w' ⟨rfl, ⟨nd, rfl⟩⟩) | (go_at_call 16; (with_reducible refine (bit_Or.calls a0 t179 t180 _ (by repeat (first | exact HG.out | apply Glob.drewN | apply Glob.drew)) A42.out).mono ?_); rintro e w' ⟨rfl, ⟨nd, rfl⟩⟩) | (go_at_call 16; (with_reducible refine (bit_Or.calls a0 a1 t181 _ (by repeat (first | exact HG.out | apply Glob.drewN | apply Glob.drew)) A43.out).mono ?_); rintro e w' ⟨rfl, ⟨nd, rfl⟩⟩) | (go_at_call 16; (with_reducible refine (bit_Or.calls a0 a2 t182 _ (by repeat (first | exact HG.out | apply Glob.drewN | apply Glob.drew)) A44.out).mono ?_); rintro e w' ⟨rfl, ⟨nd, rfl⟩⟩) | (go_at_call 15; (with_reducible refine (bit_And.calls t181 t182 t183 _ (by repeat (first | exact HG.out | apply Glob.drewN | apply Glob.drew)) A45.out).mono ?_); rintro e w' ⟨rfl, ⟨nd, rfl⟩⟩) | (go_at_call 13; (with_reducible refine (bit_Not.calls t176 t184 _ (by repeat (first | exact HG.out | apply Glob.drewN | apply Glob.drew)) A47.out).mono ?_); rintro e w' ⟨rfl, ⟨nd, rfl⟩⟩) | (go_at_call 13; (with_reducible refine (bit_Not.calls a0 t185 _ (by repeat (first | exact HG.out | apply Glob.drewN | apply Glob.drew)) A48.out).mono ?_); rintro e w' ⟨rfl, ⟨nd, rfl⟩⟩) | (go_at_call 13; (with_reducible refine (bit_Not.calls a1 t186 _ (by repeat (first | exact HG.out | apply Glob.drewN | apply Glob.drew)) A49.out).mono ?_); rintro e w' ⟨rfl, ⟨nd, rfl⟩⟩) | (go_at_call 16; (with_reducible refine (bit_Or.calls t185 t186 t187 _ (by repeat (first | exact HG.out | apply Glob.drewN | apply Glob.drew)) A50.out).mono ?_); rintro e w' ⟨rfl, ⟨nd, rfl⟩⟩) | (go_at_call 13; (with_reducible refine (bit_Not.calls t181 t188 _ (by repeat (first | exact HG.out | apply Glob.drewN | apply Glob.drew)) A52.out).mono ?_); rintro e w' ⟨rfl, ⟨nd, rfl⟩⟩) | (go_at_call 15; (with_reducible refine (bit_And.calls t185 t186 t189 _ (by repeat (first | exact HG.out | apply Glob.drewN | apply Glob.drew)) A53.out).mono ?_); rintro e w' ⟨rfl, ⟨nd, rfl⟩⟩))
                      go_ret
                      exact ⟨by first | rfl | (simp; done) | (simp [*]; done), by repeat (first | exact Drawn0.refl _ | apply Drawn0.step)⟩
                  · rw [if_neg c51] at H
                    have c51b0 : (t184 == t187) = false := beq_eq_false_iff_ne.mpr c51
                    have c51b1 : (t184 != t187) = true := bne_iff_ne.mpr c51
                    obtain rfl := Option.some.inj H
                    go_wp2_with (first | (go_at_call 16; (with_reducible refine (bit_Or.calls a1 a2 t174 _ (by repeat (first | exact HG.out | apply Glob.drewN | apply Glob.drew)) A35.out).mono ?_); rintro e w' ⟨rfl, ⟨nd, rfl⟩⟩) | (go_at_call 15; (with_reducible refine (bit_And.calls a0 t174 t175 _ (by repeat (first | exact HG.out | apply Glob.drewN | apply Glob.drew)) A36.out).mono ?_); rintro e w' ⟨rfl, ⟨nd, rfl⟩⟩) | (go_at_call 15; (with_reducible refine (bit_And.calls a0 a1 t176 _ (by repeat (first | exact HG.out | apply Glob.drewN | apply Glob.drew)) A37.out).mono ?_); rintro e w' ⟨rfl, ⟨nd, rfl⟩⟩) | (go_at_call 15; (with_reducible refine (bit_And.calls a0 a2 t177 _ (by repeat (first | exact HG.out | apply Glob.drewN | apply Glob.drew)) A38.out).mono ?_); rintro e w' ⟨rfl, ⟨nd, rfl⟩⟩) | (go_at_call 16; (with_reducible refine (bit_Or.calls t176 t177 t178 _ (by repeat (first | exact HG.out | apply Glob.drewN | apply Glob.drew)) A39.out).mono ?_); rintro e w' ⟨rfl, ⟨nd, rfl⟩⟩) | (go_at_call 15; (with_reducible refine (bit_And.calls a1 a2 t179 _ (by repeat (first | exact HG.out | apply Glob.drewN | apply Glob.drew)) A41.out).mono ?_); rintro e w' ⟨rfl, ⟨nd, rfl⟩⟩) | (go_at_call 16; (with_reducible refine (bit_Or.calls a0 t179 t180 _ (by repeat (first | exact HG.out | apply Glob.drewN | apply Glob.drew)) A42.out).mono ?_); rintro e w' ⟨rfl, ⟨nd, rfl⟩⟩) | (go_at_call 16; (with_reducible refine (bit_Or.calls a0 a1 t181 _ (by repeat (first | exact HG.out | apply Glob.drewN | apply Glob.drew)) A43.out).mono ?_); rintro e w' ⟨rfl, ⟨nd, rfl⟩⟩) | (go_at_call 16; (with_reducible refine (bit_Or.calls a0 a2 t182 _ (by repeat (first | exact HG.out | apply Glob.drewN | apply Glob.drew)) A44.out).mono ?_); rintro e w' ⟨rfl, ⟨nd, rfl⟩⟩) | (go_at_call 15; (with_reducible refine (bit_And.calls t181 t182 t183 _ (by repeat (first | exact HG.out | apply Glob.drewN | apply Glob.drew)) A45.out).mono ?_); rintro e w' ⟨rfl, ⟨nd, rfl⟩⟩) | (go_at_call 13; (with_reducible refine (bit_Not.calls t176 t184 _ (by repeat (first | exact HG.out | apply Glob.drewN | apply Glob.drew)) A47.out).mono ?_); rintro e w' ⟨rfl, ⟨nd, rfl⟩⟩) | (go_at_call 13; (with_reducible refine (bit_Not.calls a0 t185 _ (by repeat (first | exact HG.out | apply Glob.drewN | apply Glob.drew)) A48.out).mono ?_); rintro e w' ⟨rfl, ⟨nd, rfl⟩⟩) | (go_at_call 13; (with_reducible refine (bit_Not.calls a1 t186 _ (by repeat (first | exact HG.out | apply Glob.drewN | apply Glob.drew)) A49.out).mono ?_); rintro e w' ⟨rfl, ⟨nd, rfl⟩⟩) | (go_at_call 16; (with_reducible refine (bit_Or.calls t185 t186 t187 _ (by repeat (first | exact HG.out | apply Glob.drewN | apply Glob.drew)) A50.out).mono ?_); rintro e w' ⟨rfl, ⟨nd, rfl⟩⟩))
                    go_ret
                    exact ⟨by first | rfl | (simp; done) | (simp [*]; done), by repeat (first | exact Drawn0.refl _ | apply Drawn0.step)⟩
                · rw [if_neg c46] at H
                  have c46b0 : (t180 == t183) = false := beq_eq_false_iff_ne.mpr c46
                  have c46b1 : (t180 != t183) = true := bne_iff_ne.mpr c46
                  obtain rfl := Option.some.inj H
                  go_wp2_with (first | (go_at_call 16; (with_reducible refine (bit_Or.calls a1 a2 t174 _ (by repeat (first | exact HG.out | apply Glob.drewN | apply Glob.drew)) A35.out).mono ?_); rintro e w' ⟨rfl, ⟨nd, rfl⟩⟩) | (go_at_call 15; (with_reducible refine (bit_And.calls a0 t174 t175 _ (by repeat (first | exact HG.out | apply Glob.drewN | apply Glob.drew)) A36.out).mono ?_); rintro e w' ⟨rfl, ⟨nd, rfl⟩⟩) | (go_at_call 15; (with_reducible refine (bit_And.calls a0 a1 t176 _ (by repeat (first | exact HG.out | apply Glob.drewN | apply Glob.drew)) A37.out).mono ?_); rintro e w' ⟨rfl, ⟨nd, rfl⟩⟩) | (go_at_call 15; (with_reducible refine (bit_And.calls a0 a2 t177 _ (by repeat (first | exact HG.out | apply Glob.drewN | apply Glob.drew)) A38.out).mono ?_); rintro e w' ⟨rfl, ⟨nd, rfl⟩⟩) | (go_at_call 16; (with_reducible refine (bit_Or.calls t176 t177 t178 _ (by repeat (first | exact HG.out | apply Glob.drewN | apply Glob.drew)) A39.out).mono ?_); rintro e w' ⟨rfl, ⟨nd, rfl⟩⟩) | (go_at_call 15; (with_reducible refine (bit_And.calls a1 a2 t179 _ (by repeat (first | exact HG.out | apply Glob.drewN | apply Glob.drew)) A41.out).mono ?_); rintro e w' ⟨rfl, ⟨nd, rfl⟩⟩) | (go_at_call 16; (with_reducible refine (bit_Or.calls a0 t179 t180 _ (by repeat (first | exact HG.out | apply Glob.drewN | apply Glob.drew)) A42.out).mono ?_); rintro e w' ⟨rfl, ⟨nd, rfl⟩⟩) | (go_at_call 16; (with_reducible refine (bit_Or.calls a0 a1 t181 _ (by repeat (first | exact HG.out | apply Glob.drewN | apply Glob.drew)) A43.out).mono ?_); rintro e w' ⟨rfl, ⟨nd, rfl⟩⟩) | (go_at_call 16; (with_reducible refine (bit_Or.calls a0 a2 t182 _ (by repeat (first | exact HG.out | apply Glob.drewN | apply Glob.drew)) A44.out).mono ?_); rintro e w' ⟨rfl, ⟨nd, rfl⟩⟩) | (go_at_call 15; (with_reducible refine (bit_And.calls t181 t182 t183 _ (by repeat (first | exact HG.out | apply Glob.drewN | apply Glob.drew)) A45.out).mono ?_); rintro e w' ⟨rfl, ⟨nd, rfl⟩⟩))
                  go_ret
                  exact ⟨by first | rfl | (simp; done) | (simp [*]; done), by repeat (first | exact Drawn0.refl _ | apply Drawn0.step)⟩
              · rw [if_neg c40] at H
                have c40b0 : (t175 == t178) = false := beq_eq_false_iff_ne.mpr c40
                have c40b1 : (t175 != t178) = true := bne_iff_ne.mpr c40
                obtain rfl := Option.some.inj H
                go_wp2_with (first | (go_at_call 16; (with_reducible refine (bit_Or.calls a1 a2 t174 _ (by repeat (first | exact HG.out | apply Glob.drewN | apply Glob.drew)) A35.out).mono ?_); rintro e w' ⟨rfl, ⟨nd, rfl⟩⟩) | (go_at_call 15; (with_reducible refine (bit_And.calls a0 t174 t175 _ (by repeat (first | exact HG.out | apply Glob.drewN | apply Glob.drew)) A36.out).mono ?_); rintro e w' ⟨rfl, ⟨nd, rfl⟩⟩) | (go_at_call 15; (with_reducible refine (bit_And.calls a0 a1 t176 _ (by repeat (first | exact HG.out | apply Glob.drewN | apply Glob.drew)) A37.out).mono ?_); rintro e w' ⟨rfl, ⟨nd, rfl⟩⟩) | (go_at_call 15; (with_reducible refine (bit_And.calls a0 a2 t177 _ (by repeat (first | exact HG.out | apply Glob.drewN | apply Glob.drew)) A38.out).mono ?_); rintro e w' ⟨rfl, ⟨nd, rfl⟩⟩) | (go_at_call 16; (with_reducible refine (bit_Or.calls t176 t177 t178 _ (by repeat (first | exact HG.out | apply Glob.drewN | apply Glob.drew)) A39.out).mono ?_); rintro e w' ⟨rfl, ⟨nd, rfl⟩⟩))
                go_ret
                exact ⟨by first | rfl | (simp; done) | (simp [*]; done), by repeat (first | exact Drawn0.refl _ | apply Drawn0.step)⟩

end Go.Proofs.YteioheookffjiaaDoor.F
