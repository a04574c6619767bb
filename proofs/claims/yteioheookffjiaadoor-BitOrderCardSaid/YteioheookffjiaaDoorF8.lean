-- Written by a program of this session (wip/tools/drive.py) over the kit's print.py.
import Derived.Test.YteioheookffjiaaDoorF0
import Derived.Test.YteioheookffjiaaDoorF1
import Derived.Test.YteioheookffjiaaDoorF2
import Derived.Test.YteioheookffjiaaDoorF5
import Derived.Test.YteioheookffjiaaDoorF6
import Derived.Test.YteioheookffjiaaDoorF7
namespace Go.Proofs.YteioheookffjiaaDoor.F
open Go.RowKit Go.Proofs.YteioheookffjiaaDoorW.PrintWords Go.Proofs.YteioheookffjiaaDoorW.PrintLast Go.Proofs.YteioheookffjiaaDoorW.PrintMore
attribute [local go_sem] max2_int min2_int max_two min_two max_three min_three max_four min_four   -- for this text's walks alone
set_option linter.unusedVariables false
set_option linter.unusedSimpArgs false

/-! ### netlablaw01_BitMatches: function 6 -/
mutual
def netlablaw01_BitMatches.j0 : Nat → Int → Int → Int → Bool → Option (Bool)
  | 0, _, _, _, _ => none
  | k + 1, x0, x1, x2, x39 => if x39 = true then (some false) else ((bit_And.f x0 x1).bind fun t229 => ((netlabref01_And.f k x0 x1).bind fun t230 => (if t229 = t230 then ((bit_Or.f x0 x1).bind fun t231 => ((netlabref01_Or.f k x0 x1).bind fun t232 => (if t231 = t232 then ((bit_Xor.f x0 x1).bind fun t233 => ((netlabref01_Xor.f k x0 x1).bind fun t234 => (if t233 = t234 then ((bit_Eq.f x0 x1).bind fun t235 => ((netlabref01_Eq.f k x0 x1).bind fun t236 => (if t235 = t236 then ((bit_Same.f x0 x1).bind fun t237 => ((netlabref01_Same.f x0 x1).bind fun t238 => (if (t237 != t238) = true then (netlablaw01_BitMatches.j1 k x0 x1 x2 true) else ((bit_Leq.f x0 x1).bind fun t239 => ((netlabref01_Leq.f x0 x1).bind fun t240 => (netlablaw01_BitMatches.j1 k x0 x1 x2 (t239 != t240))))))) else (netlablaw01_BitMatches.j1 k x0 x1 x2 true)))) else (netlablaw01_BitMatches.j1 k x0 x1 x2 true)))) else (netlablaw01_BitMatches.j1 k x0 x1 x2 true)))) else (netlablaw01_BitMatches.j1 k x0 x1 x2 true))))
def netlablaw01_BitMatches.j1 : Nat → Int → Int → Int → Bool → Option (Bool)
  | 0, _, _, _, _ => none
  | k + 1, x0, x1, x2, x91 => if x91 = true then (some false) else ((bit_Mux.f x0 x1 x2).bind fun t241 => ((netlabref01_Mux.f x0 x1 x2).bind fun t242 => (if t241 = t242 then ((netlablaw01_awake.f k).bind fun t243 => (some t243)) else (some false))))
end
def netlablaw01_BitMatches.f (k : Nat) (a0 : Int) (a1 : Int) (a2 : Int) : Option (Bool) := (bit_Valid.f a0).bind fun t220 => (if (t220 != (decide (a0 ≤ 3))) = true then (netlablaw01_BitMatches.j0 k a0 a1 a2 true) else ((bit_Known.f a0).bind fun t221 => ((netlabref01_Known.f a0).bind fun t222 => (if (t221 != t222) = true then (netlablaw01_BitMatches.j0 k a0 a1 a2 true) else ((bit_Not.f a0).bind fun t223 => ((netlabref01_Not.f a0).bind fun t224 => (if t223 = t224 then ((bit_Buf.f a0).bind fun t225 => ((netlabref01_Buf.f a0).bind fun t226 => (if t225 = t226 then ((bit_Char.f a0).bind fun t227 => ((netlabref01_Char.f a0).bind fun t228 => (netlablaw01_BitMatches.j0 k a0 a1 a2 (t227 != t228)))) else (netlablaw01_BitMatches.j0 k a0 a1 a2 true)))) else (netlablaw01_BitMatches.j0 k a0 a1 a2 true))))))))
theorem netlablaw01_BitMatches.mono_l : ∀ k, (∀ y0 y1 y2 y3, LeO (netlablaw01_BitMatches.j0 k y0 y1 y2 y3) (netlablaw01_BitMatches.j0 (k + 1) y0 y1 y2 y3)) ∧ (∀ y0 y1 y2 y3, LeO (netlablaw01_BitMatches.j1 k y0 y1 y2 y3) (netlablaw01_BitMatches.j1 (k + 1) y0 y1 y2 y3))
  | 0 => ⟨fun _ _ _ _ r h => by simp [netlablaw01_BitMatches.j0] at h, fun _ _ _ _ r h => by simp [netlablaw01_BitMatches.j1] at h⟩
  | k + 1 => by
    obtain ⟨ih0, ih1⟩ := netlablaw01_BitMatches.mono_l k
    refine ⟨?_, ?_⟩
    · intro y0 y1 y2 y3
      unfold netlablaw01_BitMatches.j0
      repeat' first
      | (with_reducible exact ih0 _ _ _ _)
      | (with_reducible exact ih1 _ _ _ _)
      | (with_reducible exact netlablaw01_awake.mono _)
      | (with_reducible exact netlabref01_And.mono _ _ _)
      | (with_reducible exact netlabref01_Eq.mono _ _ _)
      | (with_reducible exact netlabref01_Or.mono _ _ _)
      | (with_reducible exact netlabref01_Xor.mono _ _ _)
      | (with_reducible exact LeO.refl _)
      | (with_reducible exact LeO.none _)
      | (with_reducible refine LeO.ite ?_ ?_)
      | (with_reducible refine LeO.bind ?_ (fun _ => ?_))
      | exact ih0 _ _ _ _
      | exact ih1 _ _ _ _
      | exact netlablaw01_awake.mono _
      | exact netlabref01_And.mono _ _ _
      | exact netlabref01_Eq.mono _ _ _
      | exact netlabref01_Or.mono _ _ _
      | exact netlabref01_Xor.mono _ _ _
      | exact LeO.none _
      | refine LeO.ite ?_ ?_
      | refine LeO.bind ?_ (fun _ => ?_)
    · intro y0 y1 y2 y3
      unfold netlablaw01_BitMatches.j1
      repeat' first
      | (with_reducible exact ih0 _ _ _ _)
      | (with_reducible exact ih1 _ _ _ _)
      | (with_reducible exact netlablaw01_awake.mono _)
      | (with_reducible exact netlabref01_And.mono _ _ _)
      | (with_reducible exact netlabref01_Eq.mono _ _ _)
      | (with_reducible exact netlabref01_Or.mono _ _ _)
      | (with_reducible exact netlabref01_Xor.mono _ _ _)
      | (with_reducible exact LeO.refl _)
      | (with_reducible exact LeO.none _)
      | (with_reducible refine LeO.ite ?_ ?_)
      | (with_reducible refine LeO.bind ?_ (fun _ => ?_))
      | exact ih0 _ _ _ _
      | exact ih1 _ _ _ _
      | exact netlablaw01_awake.mono _
      | exact netlabref01_And.mono _ _ _
      | exact netlabref01_Eq.mono _ _ _
      | exact netlabref01_Or.mono _ _ _
      | exact netlabref01_Xor.mono _ _ _
      | exact LeO.none _
      | refine LeO.ite ?_ ?_
      | refine LeO.bind ?_ (fun _ => ?_)
theorem netlablaw01_BitMatches.mono : ∀ a0 a1 a2 k, LeO (netlablaw01_BitMatches.f k a0 a1 a2) (netlablaw01_BitMatches.f (k + 1) a0 a1 a2) := by
  intro a0 a1 a2 k
  obtain ⟨ih0, ih1⟩ := netlablaw01_BitMatches.mono_l k
  unfold netlablaw01_BitMatches.f
  repeat' first
      | (with_reducible exact ih0 _ _ _ _)
      | (with_reducible exact ih1 _ _ _ _)
      | (with_reducible exact netlablaw01_awake.mono _)
      | (with_reducible exact netlabref01_And.mono _ _ _)
      | (with_reducible exact netlabref01_Eq.mono _ _ _)
      | (with_reducible exact netlabref01_Or.mono _ _ _)
      | (with_reducible exact netlabref01_Xor.mono _ _ _)
      | (with_reducible exact LeO.refl _)
      | (with_reducible exact LeO.none _)
      | (with_reducible refine LeO.ite ?_ ?_)
      | (with_reducible refine LeO.bind ?_ (fun _ => ?_))
      | exact ih0 _ _ _ _
      | exact ih1 _ _ _ _
      | exact netlablaw01_awake.mono _
      | exact netlabref01_And.mono _ _ _
      | exact netlabref01_Eq.mono _ _ _
      | exact netlabref01_Or.mono _ _ _
      | exact netlabref01_Xor.mono _ _ _
      | exact LeO.none _
      | refine LeO.ite ?_ ?_
      | refine LeO.bind ?_ (fun _ => ?_)
set_option maxHeartbeats 8000000 in
set_option maxRecDepth 100000 in
theorem netlablaw01_BitMatches.calls (k : Nat) (a0 : Int) (a1 : Int) (a2 : Int) (r : Bool) (w : World) (hG : Glob w) (h : netlablaw01_BitMatches.f k a0 a1 a2 = some r) :
    Calls Tryd.prog 6 #[.int .u8 a0, .int .u8 a1, .int .u8 a2] w fun e w' => e = .returned (.bool r) ∧ Drawn0 w w' := by
  have HG := Aside0.mk hG
  clear hG
  have H : ((bit_Valid.f a0).bind fun t220 => (if (t220 != (decide (a0 ≤ 3))) = true then (netlablaw01_BitMatches.j0 k a0 a1 a2 true) else ((bit_Known.f a0).bind fun t221 => ((netlabref01_Known.f a0).bind fun t222 => (if (t221 != t222) = true then (netlablaw01_BitMatches.j0 k a0 a1 a2 true) else ((bit_Not.f a0).bind fun t223 => ((netlabref01_Not.f a0).bind fun t224 => (if t223 = t224 then ((bit_Buf.f a0).bind fun t225 => ((netlabref01_Buf.f a0).bind fun t226 => (if t225 = t226 then ((bit_Char.f a0).bind fun t227 => ((netlabref01_Char.f a0).bind fun t228 => (netlablaw01_BitMatches.j0 k a0 a1 a2 (t227 != t228)))) else (netlablaw01_BitMatches.j0 k a0 a1 a2 true)))) else (netlablaw01_BitMatches.j0 k a0 a1 a2 true))))))))) = some r := h
  clear h
  have HC4 := Aside0.mk H
  clear H
  go_enter Tryd.func6, Tryd.ntmps6
  go_upto_region 1 with (fail)
  go_cut [39] (fun v39 wc => ∃ (kq : Nat) (x39_3 : Bool), v39 = .bool x39_3 ∧ Aside0 (netlablaw01_BitMatches.j0 kq a0 a1 a2 x39_3 = some r) ∧ Aside0 (kq ≤ k) ∧ Drawn0 w wc)
  case first =>
    have H := HC4.out
    clear HC4
    replace H := Option.bind_eq_some_iff.mp H
    obtain ⟨t220, A50, H⟩ := H
    replace H : (if (t220 != (decide (a0 ≤ 3))) = true then (netlablaw01_BitMatches.j0 k a0 a1 a2 true) else ((bit_Known.f a0).bind fun t221 => ((netlabref01_Known.f a0).bind fun t222 => (if (t221 != t222) = true then (netlablaw01_BitMatches.j0 k a0 a1 a2 true) else ((bit_Not.f a0).bind fun t223 => ((netlabref01_Not.f a0).bind fun t224 => (if t223 = t224 then ((bit_Buf.f a0).bind fun t225 => ((netlabref01_Buf.f a0).bind fun t226 => (if t225 = t226 then ((bit_Char.f a0).bind fun t227 => ((netlabref01_Char.f a0).bind fun t228 => (netlablaw01_BitMatches.j0 k a0 a1 a2 (t227 != t228)))) else (netlablaw01_BitMatches.j0 k a0 a1 a2 true)))) else (netlablaw01_BitMatches.j0 k a0 a1 a2 true)))))))) = some r := H
    have A5 := Aside0.mk A50
    clear A50
    by_cases c6 : (t220 != (decide (a0 ≤ 3))) = true
    · rw [if_pos c6] at H
      have c6b0 : (t220 != (decide (a0 ≤ 3))) = true := c6
      (try (have c6b1 : decide (t220 = (decide (a0 ≤ 3))) = false := by simpa using c6))
      (try (have c6b2 : (t220 == (decide (a0 ≤ 3))) = false := by simpa using c6))
      (try (have c6b3 : ¬ (t220 = (decide (a0 ≤ 3))) := by simpa using c6))
      clear c6
      (first | rw [c6b0] | (simp only [i64_w, i32_w]; rw [c6b0]) | skip)
      have H' := Aside0.mk H
      clear H
      go_wp2_with (first | ((with_reducible refine gate_callee (f := 22) rfl ?_); refine goesL_ (some 8) rfl rfl Tryd.func22 (by kernel_rfl) rfl #[.int .u8 a0] rfl (by (try simp only [List.map_toArray, List.map_cons, List.map_nil]); first | done | rfl | (simp only [List.length_drop, List.length_take]; rfl)) ?_; (with_reducible refine (bit_Valid.calls a0 t220 _ A5.out).mono ?_); rintro e w' ⟨rfl, ⟨nd, rfl⟩⟩; refine ⟨_, rfl, ?_⟩))
      go_meet
      case rel => exact ⟨_, (true), (by first | rfl | (simp; done) | (simp [*]; done)), H', ⟨by first | omega | exact Nat.le_refl _⟩, by repeat (first | exact Drawn0.refl _ | apply Drawn0.step)⟩
    · rw [if_neg c6] at H
      have c6b0 : (t220 != (decide (a0 ≤ 3))) = false := by simpa using c6
      (try (have c6b1 : decide (t220 = (decide (a0 ≤ 3))) = true := by simpa using c6))
      (try (have c6b2 : (t220 == (decide (a0 ≤ 3))) = true := by simpa using c6))
      clear c6
      (first | rw [c6b0] | (simp only [i64_w, i32_w]; rw [c6b0]) | skip)
      replace H := Option.bind_eq_some_iff.mp H
      obtain ⟨t221, A70, H⟩ := H
      replace H : ((netlabref01_Known.f a0).bind fun t222 => (if (t221 != t222) = true then (netlablaw01_BitMatches.j0 k a0 a1 a2 true) else ((bit_Not.f a0).bind fun t223 => ((netlabref01_Not.f a0).bind fun t224 => (if t223 = t224 then ((bit_Buf.f a0).bind fun t225 => ((netlabref01_Buf.f a0).bind fun t226 => (if t225 = t226 then ((bit_Char.f a0).bind fun t227 => ((netlabref01_Char.f a0).bind fun t228 => (netlablaw01_BitMatches.j0 k a0 a1 a2 (t227 != t228)))) else (netlablaw01_BitMatches.j0 k a0 a1 a2 true)))) else (netlablaw01_BitMatches.j0 k a0 a1 a2 true)))))) = some r := H
      have A7 := Aside0.mk A70
      clear A70
      replace H := Option.bind_eq_some_iff.mp H
      obtain ⟨t222, A80, H⟩ := H
      replace H : (if (t221 != t222) = true then (netlablaw01_BitMatches.j0 k a0 a1 a2 true) else ((bit_Not.f a0).bind fun t223 => ((netlabref01_Not.f a0).bind fun t224 => (if t223 = t224 then ((bit_Buf.f a0).bind fun t225 => ((netlabref01_Buf.f a0).bind fun t226 => (if t225 = t226 then ((bit_Char.f a0).bind fun t227 => ((netlabref01_Char.f a0).bind fun t228 => (netlablaw01_BitMatches.j0 k a0 a1 a2 (t227 != t228)))) else (netlablaw01_BitMatches.j0 k a0 a1 a2 true)))) else (netlablaw01_BitMatches.j0 k a0 a1 a2 true))))) = some r := H
      have A8 := Aside0.mk A80
      clear A80
      by_cases c9 : (t221 != t222) = true
      · rw [if_pos c9] at H
        have c9b0 : (t221 != t222) = true := c9
        (try (have c9b1 : decide (t221 = t222) = false := by simpa using c9))
        (try (have c9b2 : (t221 == t222) = false := by simpa using c9))
        (try (have c9b3 : ¬ (t221 = t222) := by simpa using c9))
        clear c9
        have H' := Aside0.mk H
        clear H
        go_wp2_with (first | ((with_reducible refine gate_callee (f := 22) rfl ?_); refine goesL_ (some 8) rfl rfl Tryd.func22 (by kernel_rfl) rfl #[.int .u8 a0] rfl (by (try simp only [List.map_toArray, List.map_cons, List.map_nil]); first | done | rfl | (simp only [List.length_drop, List.length_take]; rfl)) ?_; (with_reducible refine (bit_Valid.calls a0 t220 _ A5.out).mono ?_); rintro e w' ⟨rfl, ⟨nd, rfl⟩⟩; refine ⟨_, rfl, ?_⟩) | (go_at_call 21; (with_reducible refine (bit_Known.calls a0 t221 _ A7.out).mono ?_); rintro e w' ⟨rfl, ⟨nd, rfl⟩⟩) | (go_at_call 23; (with_reducible refine (netlabref01_Known.calls a0 t222 _ A8.out).mono ?_); rintro e w' ⟨rfl, ⟨nd, rfl⟩⟩))
        go_meet
        case rel => exact ⟨_, (true), (by first | rfl | (simp; done) | (simp [*]; done)), H', ⟨by first | omega | exact Nat.le_refl _⟩, by repeat (first | exact Drawn0.refl _ | apply Drawn0.step)⟩
      · rw [if_neg c9] at H
        have c9b0 : (t221 != t222) = false := by simpa using c9
        (try (have c9b1 : decide (t221 = t222) = true := by simpa using c9))
        (try (have c9b2 : (t221 == t222) = true := by simpa using c9))
        clear c9
        replace H := Option.bind_eq_some_iff.mp H
        obtain ⟨t223, A100, H⟩ := H
        replace H : ((netlabref01_Not.f a0).bind fun t224 => (if t223 = t224 then ((bit_Buf.f a0).bind fun t225 => ((netlabref01_Buf.f a0).bind fun t226 => (if t225 = t226 then ((bit_Char.f a0).bind fun t227 => ((netlabref01_Char.f a0).bind fun t228 => (netlablaw01_BitMatches.j0 k a0 a1 a2 (t227 != t228)))) else (netlablaw01_BitMatches.j0 k a0 a1 a2 true)))) else (netlablaw01_BitMatches.j0 k a0 a1 a2 true))) = some r := H
        have A10 := Aside0.mk A100
        clear A100
        replace H := Option.bind_eq_some_iff.mp H
        obtain ⟨t224, A110, H⟩ := H
        replace H : (if t223 = t224 then ((bit_Buf.f a0).bind fun t225 => ((netlabref01_Buf.f a0).bind fun t226 => (if t225 = t226 then ((bit_Char.f a0).bind fun t227 => ((netlabref01_Char.f a0).bind fun t228 => (netlablaw01_BitMatches.j0 k a0 a1 a2 (t227 != t228)))) else (netlablaw01_BitMatches.j0 k a0 a1 a2 true)))) else (netlablaw01_BitMatches.j0 k a0 a1 a2 true)) = some r := H
        have A11 := Aside0.mk A110
        clear A110
        by_cases c12 : t223 = t224
        · rw [if_pos c12] at H
          have c12b0 : (t223 == t224) = true := beq_iff_eq.mpr c12
          have c12b1 : (t223 != t224) = false := bne_eq_false_iff_eq.mpr c12
          clear c12
          replace H := Option.bind_eq_some_iff.mp H
          obtain ⟨t225, A130, H⟩ := H
          replace H : ((netlabref01_Buf.f a0).bind fun t226 => (if t225 = t226 then ((bit_Char.f a0).bind fun t227 => ((netlabref01_Char.f a0).bind fun t228 => (netlablaw01_BitMatches.j0 k a0 a1 a2 (t227 != t228)))) else (netlablaw01_BitMatches.j0 k a0 a1 a2 true))) = some r := H
          have A13 := Aside0.mk A130
          clear A130
          replace H := Option.bind_eq_some_iff.mp H
          obtain ⟨t226, A140, H⟩ := H
          replace H : (if t225 = t226 then ((bit_Char.f a0).bind fun t227 => ((netlabref01_Char.f a0).bind fun t228 => (netlablaw01_BitMatches.j0 k a0 a1 a2 (t227 != t228)))) else (netlablaw01_BitMatches.j0 k a0 a1 a2 true)) = some r := H
          have A14 := Aside0.mk A140
          clear A140
          by_cases c15 : t225 = t226
          · rw [if_pos c15] at H
            have c15b0 : (t225 == t226) = true := beq_iff_eq.mpr c15
            have c15b1 : (t225 != t226) = false := bne_eq_false_iff_eq.mpr c15
            clear c15
            replace H := Option.bind_eq_some_iff.mp H
            obtain ⟨t227, A160, H⟩ := H
            replace H : ((netlabref01_Char.f a0).bind fun t228 => (netlablaw01_BitMatches.j0 k a0 a1 a2 (t227 != t228))) = some r := H
            have A16 := Aside0.mk A160
            clear A160
            replace H := Option.bind_eq_some_iff.mp H
            obtain ⟨t228, A170, H⟩ := H
            replace H : (netlablaw01_BitMatches.j0 k a0 a1 a2 (t227 != t228)) = some r := H
            have A17 := Aside0.mk A170
            clear A170
            have H' := Aside0.mk H
            clear H
            go_wp2_with (first | ((with_reducible refine gate_callee (f := 22) rfl ?_); refine goesL_ (some 8) rfl rfl Tryd.func22 (by kernel_rfl) rfl #[.int .u8 a0] rfl (by (try simp only [List.map_toArray, List.map_cons, List.map_nil]); first | done | rfl | (simp only [List.length_drop, List.length_take]; rfl)) ?_; (with_reducible refine (bit_Valid.calls a0 t220 _ A5.out).mono ?_); rintro e w' ⟨rfl, ⟨nd, rfl⟩⟩; refine ⟨_, rfl, ?_⟩) | (go_at_call 21; (with_reducible refine (bit_Known.calls a0 t221 _ A7.out).mono ?_); rintro e w' ⟨rfl, ⟨nd, rfl⟩⟩) | (go_at_call 23; (with_reducible refine (netlabref01_Known.calls a0 t222 _ A8.out).mono ?_); rintro e w' ⟨rfl, ⟨nd, rfl⟩⟩) | (go_at_call 13; (with_reducible refine (bit_Not.calls a0 t223 _ (by repeat (first | exact HG.out | apply Glob.drewN | apply Glob.drew)) A10.out).mono ?_); rintro e w' ⟨rfl, ⟨nd, rfl⟩⟩) | (go_at_call 24; (with_reducible refine (netlabref01_Not.calls a0 t224 _ A11.out).mono ?_); rintro e w' ⟨rfl, ⟨nd, rfl⟩⟩) | (go_at_call 14; (with_reducible refine (bit_Buf.calls a0 t225 _ (by repeat (first | exact HG.out | apply Glob.drewN | apply Glob.drew)) A13.out).mono ?_); rintro e w' ⟨rfl, ⟨nd, rfl⟩⟩) | (go_at_call 25; (with_reducible refine (netlabref01_Buf.calls a0 t226 _ A14.out).mono ?_); rintro e w' ⟨rfl, ⟨nd, rfl⟩⟩) | (go_at_call 26; (with_reducible refine (bit_Char.calls a0 t227 _ A16.out).mono ?_); rintro e w' ⟨rfl, ⟨nd, rfl⟩⟩) | (go_at_call 27; (with_reducible refine (netlabref01_Char.calls a0 t228 _ A17.out).mono ?_); rintro e w' ⟨rfl, ⟨nd, rfl⟩⟩))
            go_meet
            case rel => exact ⟨_, ((t227 != t228)), (by first | rfl | (simp; done) | (simp [*]; done)), H', ⟨by first | omega | exact Nat.le_refl _⟩, by repeat (first | exact Drawn0.refl _ | apply Drawn0.step)⟩
          · rw [if_neg c15] at H
            have c15b0 : (t225 == t226) = false := beq_eq_false_iff_ne.mpr c15
            have c15b1 : (t225 != t226) = true := bne_iff_ne.mpr c15
            have H' := Aside0.mk H
            clear H
            go_wp2_with (first | ((with_reducible refine gate_callee (f := 22) rfl ?_); refine goesL_ (some 8) rfl rfl Tryd.func22 (by kernel_rfl) rfl #[.int .u8 a0] rfl (by (try simp only [List.map_toArray, List.map_cons, List.map_nil]); first | done | rfl | (simp only [List.length_drop, List.length_take]; rfl)) ?_; (with_reducible refine (bit_Valid.calls a0 t220 _ A5.out).mono ?_); rintro e w' ⟨rfl, ⟨nd, rfl⟩⟩; refine ⟨_, rfl, ?_⟩) | (go_at_call 21; (with_reducible refine (bit_Known.calls a0 t221 _ A7.out).mono ?_); rintro e w' ⟨rfl, ⟨nd, rfl⟩⟩) | (go_at_call 23; (with_reducible refine (netlabref01_Known.calls a0 t222 _ A8.out).mono ?_); rintro e w' ⟨rfl, ⟨nd, rfl⟩⟩) | (go_at_call 13; (with_reducible refine (bit_Not.calls a0 t223 _ (by repeat (first | exact HG.out | apply Glob.drewN | apply Glob.drew)) A10.out).mono ?_); rintro e w' ⟨rfl, ⟨nd, rfl⟩⟩) | (go_at_call 24; (with_reducible refine (netlabref01_Not.calls a0 t224 _ A11.out).mono ?_); rintro e w' ⟨rfl, ⟨nd, rfl⟩⟩) | (go_at_call 14; (with_reducible refine (bit_Buf.calls a0 t225 _ (by repeat (first | exact HG.out | apply Glob.drewN | apply Glob.drew)) A13.out).mono ?_); rintro e w' ⟨rfl, ⟨nd, rfl⟩⟩) | (go_at_call 25; (with_reducible refine (netlabref01_Buf.calls a0 t226 _ A14.out).mono ?_); rintro e w' ⟨rfl, ⟨nd, rfl⟩⟩))
            go_meet
            case rel => exact ⟨_, (true), (by first | rfl | (simp; done) | (simp [*]; done)), H', ⟨by first | omega | exact Nat.le_refl _⟩, by repeat (first | exact Drawn0.refl _ | apply Drawn0.step)⟩
        · rw [if_neg c12] at H
          have c12b0 : (t223 == t224) = false := beq_eq_false_iff_ne.mpr c12
          have c12b1 : (t223 != t224) = true := bne_iff_ne.mpr c12
          have H' := Aside0.mk H
          clear H
          go_wp2_with (first | ((with_reducible refine gate_callee (f := 22) rfl ?_); refine goesL_ (some 8) rfl rfl Tryd.func22 (by kernel_rfl) rfl #[.int .u8 a0] rfl (by (try simp only [List.map_toArray, List.map_cons, List.map_nil]); first | done | rfl | (simp only [List.length_drop, List.length_take]; rfl)) ?_; (with_reducible refine (bit_Valid.calls a0 t220 _ A5.out).mono ?_); rintro e w' ⟨rfl, ⟨nd, rfl⟩⟩; refine ⟨_, rfl, ?_⟩) | (go_at_call 21; (with_reducible refine (bit_Known.calls a0 t221 _ A7.out).mono ?_); rintro e w' ⟨rfl, ⟨nd, rfl⟩⟩) | (go_at_call 23; (with_reducible refine (netlabref01_Known.calls a0 t222 _ A8.out).mono ?_); rintro e w' ⟨rfl, ⟨nd, rfl⟩⟩) | (go_at_call 13; (with_reducible refine (bit_Not.calls a0 t223 _ (by repeat (first | exact HG.out | apply Glob.drewN | apply Glob.drew)) A10.out).mono ?_); rintro e w' ⟨rfl, ⟨nd, rfl⟩⟩) | (go_at_call 24; (with_reducible refine (netlabref01_Not.calls a0 t224 _ A11.out).mono ?_); rintro e w' ⟨rfl, ⟨nd, rfl⟩⟩))
          go_meet
          case rel => exact ⟨_, (true), (by first | rfl | (simp; done) | (simp [*]; done)), H', ⟨by first | omega | exact Nat.le_refl _⟩, by repeat (first | exact Drawn0.refl _ | apply Drawn0.step)⟩
  case rest =>
    clear HC4
    try clear c1
    try clear c2
    try clear p2
    try clear c6
    try clear c6b0
    try clear c6b1
    try clear c6b2
    try clear c9
    try clear c9b0
    try clear c9b1
    try clear c9b2
    try clear c12
    try clear c12b0
    try clear c12b1
    try clear c15
    try clear c15b0
    try clear c15b1
    obtain ⟨kq, x39_3, rfl, HA, HJ3, ⟨mc3, rfl⟩⟩ := hcut
    cases kq with
    | zero => exact absurd HA.out (by simp [netlablaw01_BitMatches.j0])
    | succ kj3 =>
      have H := HA.out
      clear HA
      simp only [netlablaw01_BitMatches.j0] at H
      by_cases c18 : x39_3 = true
      · subst c18
        have H1 : (some false) = some r := by rw [if_pos rfl] at H; exact H
        clear H
        have H := H1
        clear H1
        obtain rfl := Option.some.inj H
        go_wp2
        go_ret
        exact ⟨by first | rfl | (simp; done) | (simp [*]; done), by repeat (first | exact Drawn0.refl _ | apply Drawn0.step)⟩
      · replace c18 := Bool.eq_false_iff.mpr c18
        subst c18
        have H1 : ((bit_And.f a0 a1).bind fun t229 => ((netlabref01_And.f kj3 a0 a1).bind fun t230 => (if t229 = t230 then ((bit_Or.f a0 a1).bind fun t231 => ((netlabref01_Or.f kj3 a0 a1).bind fun t232 => (if t231 = t232 then ((bit_Xor.f a0 a1).bind fun t233 => ((netlabref01_Xor.f kj3 a0 a1).bind fun t234 => (if t233 = t234 then ((bit_Eq.f a0 a1).bind fun t235 => ((netlabref01_Eq.f kj3 a0 a1).bind fun t236 => (if t235 = t236 then ((bit_Same.f a0 a1).bind fun t237 => ((netlabref01_Same.f a0 a1).bind fun t238 => (if (t237 != t238) = true then (netlablaw01_BitMatches.j1 kj3 a0 a1 a2 true) else ((bit_Leq.f a0 a1).bind fun t239 => ((netlabref01_Leq.f a0 a1).bind fun t240 => (netlablaw01_BitMatches.j1 kj3 a0 a1 a2 (t239 != t240))))))) else (netlablaw01_BitMatches.j1 kj3 a0 a1 a2 true)))) else (netlablaw01_BitMatches.j1 kj3 a0 a1 a2 true)))) else (netlablaw01_BitMatches.j1 kj3 a0 a1 a2 true)))) else (netlablaw01_BitMatches.j1 kj3 a0 a1 a2 true)))) = some r := by rw [if_neg (show ¬ (false = true) by decide)] at H; exact H
        clear H
        have H := H1
        clear H1
        have HC19 := Aside0.mk H
        clear H
        go_upto_region 3 with (fail)
        go_cut [91] (fun v91 wc => ∃ (kq : Nat) (x91_18 : Bool), v91 = .bool x91_18 ∧ Aside0 (netlablaw01_BitMatches.j1 kq a0 a1 a2 x91_18 = some r) ∧ Aside0 (kq ≤ kj3) ∧ Drawn0 w wc)
        case first =>
          have H := HC19.out
          clear HC19
          replace H := Option.bind_eq_some_iff.mp H
          obtain ⟨t229, A200, H⟩ := H
          replace H : ((netlabref01_And.f kj3 a0 a1).bind fun t230 => (if t229 = t230 then ((bit_Or.f a0 a1).bind fun t231 => ((netlabref01_Or.f kj3 a0 a1).bind fun t232 => (if t231 = t232 then ((bit_Xor.f a0 a1).bind fun t233 => ((netlabref01_Xor.f kj3 a0 a1).bind fun t234 => (if t233 = t234 then ((bit_Eq.f a0 a1).bind fun t235 => ((netlabref01_Eq.f kj3 a0 a1).bind fun t236 => (if t235 = t236 then ((bit_Same.f a0 a1).bind fun t237 => ((netlabref01_Same.f a0 a1).bind fun t238 => (if (t237 != t238) = true then (netlablaw01_BitMatches.j1 kj3 a0 a1 a2 true) else ((bit_Leq.f a0 a1).bind fun t239 => ((netlabref01_Leq.f a0 a1).bind fun t240 => (netlablaw01_BitMatches.j1 kj3 a0 a1 a2 (t239 != t240))))))) else (netlablaw01_BitMatches.j1 kj3 a0 a1 a2 true)))) else (netlablaw01_BitMatches.j1 kj3 a0 a1 a2 true)))) else (netlablaw01_BitMatches.j1 kj3 a0 a1 a2 true)))) else (netlablaw01_BitMatches.j1 kj3 a0 a1 a2 true))) = some r := H
          have A20 := Aside0.mk A200
          clear A200
          replace H := Option.bind_eq_some_iff.mp H
          obtain ⟨t230, A210, H⟩ := H
          replace H : (if t229 = t230 then ((bit_Or.f a0 a1).bind fun t231 => ((netlabref01_Or.f kj3 a0 a1).bind fun t232 => (if t231 = t232 then ((bit_Xor.f a0 a1).bind fun t233 => ((netlabref01_Xor.f kj3 a0 a1).bind fun t234 => (if t233 = t234 then ((bit_Eq.f a0 a1).bind fun t235 => ((netlabref01_Eq.f kj3 a0 a1).bind fun t236 => (if t235 = t236 then ((bit_Same.f a0 a1).bind fun t237 => ((netlabref01_Same.f a0 a1).bind fun t238 => (if (t237 != t238) = true then (netlablaw01_BitMatches.j1 kj3 a0 a1 a2 true) else ((bit_Leq.f a0 a1).bind fun t239 => ((netlabref01_Leq.f a0 a1).bind fun t240 => (netlablaw01_BitMatches.j1 kj3 a0 a1 a2 (t239 != t240))))))) else (netlablaw01_BitMatches.j1 kj3 a0 a1 a2 true)))) else (netlablaw01_BitMatches.j1 kj3 a0 a1 a2 true)))) else (netlablaw01_BitMatches.j1 kj3 a0 a1 a2 true)))) else (netlablaw01_BitMatches.j1 kj3 a0 a1 a2 true)) = some r := H
          have A21 := Aside0.mk A210
          clear A210
          by_cases c22 : t229 = t230
          · rw [if_pos c22] at H
            have c22b0 : (t229 == t230) = true := beq_iff_eq.mpr c22
            have c22b1 : (t229 != t230) = false := bne_eq_false_iff_eq.mpr c22
            clear c22
            (first | rw [c22b0] | (simp only [i64_w, i32_w]; rw [c22b0]) | skip)
            replace H := Option.bind_eq_some_iff.mp H
            obtain ⟨t231, A230, H⟩ := H
            replace H : ((netlabref01_Or.f kj3 a0 a1).bind fun t232 => (if t231 = t232 then ((bit_Xor.f a0 a1).bind fun t233 => ((netlabref01_Xor.f kj3 a0 a1).bind fun t234 => (if t233 = t234 then ((bit_Eq.f a0 a1).bind fun t235 => ((netlabref01_Eq.f kj3 a0 a1).bind fun t236 => (if t235 = t236 then ((bit_Same.f a0 a1).bind fun t237 => ((netlabref01_Same.f a0 a1).bind fun t238 => (if (t237 != t238) = true then (netlablaw01_BitMatches.j1 kj3 a0 a1 a2 true) else ((bit_Leq.f a0 a1).bind fun t239 => ((netlabref01_Leq.f a0 a1).bind fun t240 => (netlablaw01_BitMatches.j1 kj3 a0 a1 a2 (t239 != t240))))))) else (netlablaw01_BitMatches.j1 kj3 a0 a1 a2 true)))) else (netlablaw01_BitMatches.j1 kj3 a0 a1 a2 true)))) else (netlablaw01_BitMatches.j1 kj3 a0 a1 a2 true))) = some r := H
            have A23 := Aside0.mk A230
            clear A230
            replace H := Option.bind_eq_some_iff.mp H
            obtain ⟨t232, A240, H⟩ := H
            replace H : (if t231 = t232 then ((bit_Xor.f a0 a1).bind fun t233 => ((netlabref01_Xor.f kj3 a0 a1).bind fun t234 => (if t233 = t234 then ((bit_Eq.f a0 a1).bind fun t235 => ((netlabref01_Eq.f kj3 a0 a1).bind fun t236 => (if t235 = t236 then ((bit_Same.f a0 a1).bind fun t237 => ((netlabref01_Same.f a0 a1).bind fun t238 => (if (t237 != t238) = true then (netlablaw01_BitMatches.j1 kj3 a0 a1 a2 true) else ((bit_Leq.f a0 a1).bind fun t239 => ((netlabref01_Leq.f a0 a1).bind fun t240 => (netlablaw01_BitMatches.j1 kj3 a0 a1 a2 (t239 != t240))))))) else (netlablaw01_BitMatches.j1 kj3 a0 a1 a2 true)))) else (netlablaw01_BitMatches.j1 kj3 a0 a1 a2 true)))) else (netlablaw01_BitMatches.j1 kj3 a0 a1 a2 true)) = some r := H
            have A24 := Aside0.mk A240
            clear A240
            by_cases c25 : t231 = t232
            · rw [if_pos c25] at H
              have c25b0 : (t231 == t232) = true := beq_iff_eq.mpr c25
              have c25b1 : (t231 != t232) = false := bne_eq_false_iff_eq.mpr c25
              clear c25
              replace H := Option.bind_eq_some_iff.mp H
              obtain ⟨t233, A260, H⟩ := H
              replace H : ((netlabref01_Xor.f kj3 a0 a1).bind fun t234 => (if t233 = t234 then ((bit_Eq.f a0 a1).bind fun t235 => ((netlabref01_Eq.f kj3 a0 a1).bind fun t236 => (if t235 = t236 then ((bit_Same.f a0 a1).bind fun t237 => ((netlabref01_Same.f a0 a1).bind fun t238 => (if (t237 != t238) = true then (netlablaw01_BitMatches.j1 kj3 a0 a1 a2 true) else ((bit_Leq.f a0 a1).bind fun t239 => ((netlabref01_Leq.f a0 a1).bind fun t240 => (netlablaw01_BitMatches.j1 kj3 a0 a1 a2 (t239 != t240))))))) else (netlablaw01_BitMatches.j1 kj3 a0 a1 a2 true)))) else (netlablaw01_BitMatches.j1 kj3 a0 a1 a2 true))) = some r := H
              have A26 := Aside0.mk A260
              clear A260
              replace H := Option.bind_eq_some_iff.mp H
              obtain ⟨t234, A270, H⟩ := H
              replace H : (if t233 = t234 then ((bit_Eq.f a0 a1).bind fun t235 => ((netlabref01_Eq.f kj3 a0 a1).bind fun t236 => (if t235 = t236 then ((bit_Same.f a0 a1).bind fun t237 => ((netlabref01_Same.f a0 a1).bind fun t238 => (if (t237 != t238) = true then (netlablaw01_BitMatches.j1 kj3 a0 a1 a2 true) else ((bit_Leq.f a0 a1).bind fun t239 => ((netlabref01_Leq.f a0 a1).bind fun t240 => (netlablaw01_BitMatches.j1 kj3 a0 a1 a2 (t239 != t240))))))) else (netlablaw01_BitMatches.j1 kj3 a0 a1 a2 true)))) else (netlablaw01_BitMatches.j1 kj3 a0 a1 a2 true)) = some r := H
              have A27 := Aside0.mk A270
              clear A270
              by_cases c28 : t233 = t234
              · rw [if_pos c28] at H
                have c28b0 : (t233 == t234) = true := beq_iff_eq.mpr c28
                have c28b1 : (t233 != t234) = false := bne_eq_false_iff_eq.mpr c28
                clear c28
                replace H := Option.bind_eq_some_iff.mp H
                obtain ⟨t235, A290, H⟩ := H
                replace H : ((netlabref01_Eq.f kj3 a0 a1).bind fun t236 => (if t235 = t236 then ((bit_Same.f a0 a1).bind fun t237 => ((netlabref01_Same.f a0 a1).bind fun t238 => (if (t237 != t238) = true then (netlablaw01_BitMatches.j1 kj3 a0 a1 a2 true) else ((bit_Leq.f a0 a1).bind fun t239 => ((netlabref01_Leq.f a0 a1).bind fun t240 => (netlablaw01_BitMatches.j1 kj3 a0 a1 a2 (t239 != t240))))))) else (netlablaw01_BitMatches.j1 kj3 a0 a1 a2 true))) = some r := H
                have A29 := Aside0.mk A290
                clear A290
                replace H := Option.bind_eq_some_iff.mp H
                obtain ⟨t236, A300, H⟩ := H
                replace H : (if t235 = t236 then ((bit_Same.f a0 a1).bind fun t237 => ((netlabref01_Same.f a0 a1).bind fun t238 => (if (t237 != t238) = true then (netlablaw01_BitMatches.j1 kj3 a0 a1 a2 true) else ((bit_Leq.f a0 a1).bind fun t239 => ((netlabref01_Leq.f a0 a1).bind fun t240 => (netlablaw01_BitMatches.j1 kj3 a0 a1 a2 (t239 != t240))))))) else (netlablaw01_BitMatches.j1 kj3 a0 a1 a2 true)) = some r := H
                have A30 := Aside0.mk A300
                clear A300
                by_cases c31 : t235 = t236
                · rw [if_pos c31] at H
                  have c31b0 : (t235 == t236) = true := beq_iff_eq.mpr c31
                  have c31b1 : (t235 != t236) = false := bne_eq_false_iff_eq.mpr c31
                  clear c31
                  replace H := Option.bind_eq_some_iff.mp H
                  obtain ⟨t237, A320, H⟩ := H
                  replace H : ((netlabref01_Same.f a0 a1).bind fun t238 => (if (t237 != t238) = true then (netlablaw01_BitMatches.j1 kj3 a0 a1 a2 true) else ((bit_Leq.f a0 a1).bind fun t239 => ((netlabref01_Leq.f a0 a1).bind fun t240 => (netlablaw01_BitMatches.j1 kj3 a0 a1 a2 (t239 != t240)))))) = some r := H
                  have A32 := Aside0.mk A320
                  clear A320
                  replace H := Option.bind_eq_some_iff.mp H
                  obtain ⟨t238, A330, H⟩ := H
                  replace H : (if (t237 != t238) = true then (netlablaw01_BitMatches.j1 kj3 a0 a1 a2 true) else ((bit_Leq.f a0 a1).bind fun t239 => ((netlabref01_Leq.f a0 a1).bind fun t240 => (netlablaw01_BitMatches.j1 kj3 a0 a1 a2 (t239 != t240))))) = some r := H
                  have A33 := Aside0.mk A330
                  clear A330
                  by_cases c34 : (t237 != t238) = true
                  · rw [if_pos c34] at H
                    have c34b0 : (t237 != t238) = true := c34
                    (try (have c34b1 : decide (t237 = t238) = false := by simpa using c34))
                    (try (have c34b2 : (t237 == t238) = false := by simpa using c34))
                    (try (have c34b3 : ¬ (t237 = t238) := by simpa using c34))
                    clear c34
                    have H' := Aside0.mk H
                    clear H
                    go_wp2_with (first | ((with_reducible refine gate_callee (f := 15) rfl ?_); refine goesL_ (some 42) rfl rfl Tryd.func15 (by kernel_rfl) rfl #[.int .u8 a0, .int .u8 a1] rfl (by (try simp only [List.map_toArray, List.map_cons, List.map_nil]); first | done | rfl | (simp only [List.length_drop, List.length_take]; rfl)) ?_; (with_reducible refine (bit_And.calls a0 a1 t229 _ (by repeat (first | exact HG.out | apply Glob.drewN | apply Glob.drew)) A20.out).mono ?_); rintro e w' ⟨rfl, ⟨nd, rfl⟩⟩; refine ⟨_, rfl, ?_⟩) | ((with_reducible refine gate_callee (f := 28) rfl ?_); refine goesL_ (some 45) rfl rfl Tryd.func28 (by kernel_rfl) rfl #[.int .u8 a0, .int .u8 a1] rfl (by (try simp only [List.map_toArray, List.map_cons, List.map_nil]); first | done | rfl | (simp only [List.length_drop, List.length_take]; rfl)) ?_; (with_reducible refine (netlabref01_And.calls kj3 a0 a1 t230 _ A21.out).mono ?_); rintro e w' ⟨rfl, ⟨nd, rfl⟩⟩; refine ⟨_, rfl, ?_⟩) | (go_at_call 16; (with_reducible refine (bit_Or.calls a0 a1 t231 _ (by repeat (first | exact HG.out | apply Glob.drewN | apply Glob.drew)) A23.out).mono ?_); rintro e w' ⟨rfl, ⟨nd, rfl⟩⟩) | (go_at_call 29; (with_reducible refine (netlabref01_Or.calls kj3 a0 a1 t232 _ A24.out).mono ?_); rintro e w' ⟨rfl, ⟨nd, rfl⟩⟩) | (go_at_call 17; (with_reducible refine (bit_Xor.calls a0 a1 t233 _ (by repeat (first | exact HG.out | apply Glob.drewN | apply Glob.drew)) A26.out).mono ?_); rintro e w' ⟨rfl, ⟨nd, rfl⟩⟩) | (go_at_call 30; (with_reducible refine (netlabref01_Xor.calls kj3 a0 a1 t234 _ A27.out).mono ?_); rintro e w' ⟨rfl, ⟨nd, rfl⟩⟩) | (go_at_call 18; (with_reducible refine (bit_Eq.calls a0 a1 t235 _ (by repeat (first | exact HG.out | apply Glob.drewN | apply Glob.drew)) A29.out).mono ?_); rintro e w' ⟨rfl, ⟨nd, rfl⟩⟩) | (go_at_call 31; (with_reducible refine (netlabref01_Eq.calls kj3 a0 a1 t236 _ A30.out).mono ?_); rintro e w' ⟨rfl, ⟨nd, rfl⟩⟩) | (go_at_call 20; (with_reducible refine (bit_Same.calls a0 a1 t237 _ A32.out).mono ?_); rintro e w' ⟨rfl, ⟨nd, rfl⟩⟩) | (go_at_call 32; (with_reducible refine (netlabref01_Same.calls a0 a1 t238 _ A33.out).mono ?_); rintro e w' ⟨rfl, ⟨nd, rfl⟩⟩))
                    go_meet
                    case rel => exact ⟨_, (true), (by first | rfl | (simp; done) | (simp [*]; done)), H', ⟨by have := HJ3.out; first | omega | exact Nat.le_refl _⟩, by repeat (first | exact Drawn0.refl _ | apply Drawn0.step)⟩
                  · rw [if_neg c34] at H
                    have c34b0 : (t237 != t238) = false := by simpa using c34
                    (try (have c34b1 : decide (t237 = t238) = true := by simpa using c34))
                    (try (have c34b2 : (t237 == t238) = true := by simpa using c34))
                    clear c34
                    replace H := Option.bind_eq_some_iff.mp H
                    obtain ⟨t239, A350, H⟩ := H
                    replace H : ((netlabref01_Leq.f a0 a1).bind fun t240 => (netlablaw01_BitMatches.j1 kj3 a0 a1 a2 (t239 != t240))) = some r := H
                    have A35 := Aside0.mk A350
                    clear A350
                    replace H := Option.bind_eq_some_iff.mp H
                    obtain ⟨t240, A360, H⟩ := H
                    replace H : (netlablaw01_BitMatches.j1 kj3 a0 a1 a2 (t239 != t240)) = some r := H
                    have A36 := Aside0.mk A360
                    clear A360
                    have H' := Aside0.mk H
                    clear H
                    go_wp2_with (first | ((with_reducible refine gate_callee (f := 15) rfl ?_); refine goesL_ (some 42) rfl rfl Tryd.func15 (by kernel_rfl) rfl #[.int .u8 a0, .int .u8 a1] rfl (by (try simp only [List.map_toArray, List.map_cons, List.map_nil]); first | done | rfl | (simp only [List.length_drop, List.length_take]; rfl)) ?_; (with_reducible refine (bit_And.calls a0 a1 t229 _ (by repeat (first | exact HG.out | apply Glob.drewN | apply Glob.drew)) A20.out).mono ?_); rintro e w' ⟨rfl, ⟨nd, rfl⟩⟩; refine ⟨_, rfl, ?_⟩) | ((with_reducible refine gate_callee (f := 28) rfl ?_); refine goesL_ (some 45) rfl rfl Tryd.func28 (by kernel_rfl) rfl #[.int .u8 a0, .int .u8 a1] rfl (by (try simp only [List.map_toArray, List.map_cons, List.map_nil]); first | done | rfl | (simp only [List.length_drop, List.length_take]; rfl)) ?_; (with_reducible refine (netlabref01_And.calls kj3 a0 a1 t230 _ A21.out).mono ?_); rintro e w' ⟨rfl, ⟨nd, rfl⟩⟩; refine ⟨_, rfl, ?_⟩) | (go_at_call 16; (with_reducible refine (bit_Or.calls a0 a1 t231 _ (by repeat (first | exact HG.out | apply Glob.drewN | apply Glob.drew)) A23.out).mono ?_); rintro e w' ⟨rfl, ⟨nd, rfl⟩⟩) | (go_at_call 29; (with_reducible refine (netlabref01_Or.calls kj3 a0 a1 t232 _ A24.out).mono ?_); rintro e w' ⟨rfl, ⟨nd, rfl⟩⟩) | (go_at_call 17; (with_reducible refine (bit_Xor.calls a0 a1 t233 _ (by repeat (first | exact HG.out | apply Glob.drewN | apply Glob.drew)) A26.out).mono ?_); rintro e w' ⟨rfl, ⟨nd, rfl⟩⟩) | (go_at_call 30; (with_reducible refine (netlabref01_Xor.calls kj3 a0 a1 t234 _ A27.out).mono ?_); rintro e w' ⟨rfl, ⟨nd, rfl⟩⟩) | (go_at_call 18; (with_reducible refine (bit_Eq.calls a0 a1 t235 _ (by repeat (first | exact HG.out | apply Glob.drewN | apply Glob.drew)) A29.out).mono ?_); rintro e w' ⟨rfl, ⟨nd, rfl⟩⟩) | (go_at_call 31; (with_reducible refine (netlabref01_Eq.calls kj3 a0 a1 t236 _ A30.out).mono ?_); rintro e w' ⟨rfl, ⟨nd, rfl⟩⟩) | (go_at_call 20; (with_reducible refine (bit_Same.calls a0 a1 t237 _ A32.out).mono ?_); rintro e w' ⟨rfl, ⟨nd, rfl⟩⟩) | (go_at_call 32; (with_reducible refine (netlabref01_Same.calls a0 a1 t238 _ A33.out).mono ?_); rintro e w' ⟨rfl, ⟨nd, rfl⟩⟩) | (go_at_call 11; (with_reducible refine (bit_Leq.calls a0 a1 t239 _ A35.out).mono ?_); rintro e w' ⟨rfl, ⟨nd, rfl⟩⟩) | (go_at_call 33; (with_reducible refine (netlabref01_Leq.calls a0 a1 t240 _ A36.out).mono ?_); rintro e w' ⟨rfl, ⟨nd, rfl⟩⟩))
                    go_meet
                    case rel => exact ⟨_, ((t239 != t240)), (by first | rfl | (simp; done) | (simp [*]; done)), H', ⟨by have := HJ3.out; first | omega | exact Nat.le_refl _⟩, by repeat (first | exact Drawn0.refl _ | apply Drawn0.step)⟩
                · rw [if_neg c31] at H
                  have c31b0 : (t235 == t236) = false := beq_eq_false_iff_ne.mpr c31
                  have c31b1 : (t235 != t236) = true := bne_iff_ne.mpr c31
                  have H' := Aside0.mk H
                  clear H
                  go_wp2_with (first | ((with_reducible refine gate_callee (f := 15) rfl ?_); refine goesL_ (some 42) rfl rfl Tryd.func15 (by kernel_rfl) rfl #[.int .u8 a0, .int .u8 a1] rfl (by (try simp only [List.map_toArray, List.map_cons, List.map_nil]); first | done | rfl | (simp only [List.length_drop, List.length_take]; rfl)) ?_; (with_reducible refine (bit_And.calls a0 a1 t229 _ (by repeat (first | exact HG.out | apply Glob.drewN | apply Glob.drew)) A20.out).mono ?_); rintro e w' ⟨rfl, ⟨nd, rfl⟩⟩; refine ⟨_, rfl, ?_⟩) | ((with_reducible refine gate_callee (f := 28) rfl ?_); refine goesL_ (some 45) rfl rfl Tryd.func28 (by kernel_rfl) rfl #[.int .u8 a0, .int .u8 a1] rfl (by (try simp only [List.map_toArray, List.map_cons, List.map_nil]); first | done | rfl | (simp only [List.length_drop, List.length_take]; rfl)) ?_; (with_reducible refine (netlabref01_And.calls kj3 a0 a1 t230 _ A21.out).mono ?_); rintro e w' ⟨rfl, ⟨nd, rfl⟩⟩; refine ⟨_, rfl, ?_⟩) | (go_at_call 16; (with_reducible refine (bit_Or.calls a0 a1 t231 _ (by repeat (first | exact HG.out | apply Glob.drewN | apply Glob.drew)) A23.out).mono ?_); rintro e w' ⟨rfl, ⟨nd, rfl⟩⟩) | (go_at_call 29; (with_reducible refine (netlabref01_Or.calls kj3 a0 a1 t232 _ A24.out).mono ?_); rintro e w' ⟨rfl, ⟨nd, rfl⟩⟩) | (go_at_call 17; (with_reducible refine (bit_Xor.calls a0 a1 t233 _ (by repeat (first | exact HG.out | apply Glob.drewN | apply Glob.drew)) A26.out).mono ?_); rintro e w' ⟨rfl, ⟨nd, rfl⟩⟩) | (go_at_call 30; (with_reducible refine (netlabref01_Xor.calls kj3 a0 a1 t234 _ A27.out).mono ?_); rintro e w' ⟨rfl, ⟨nd, rfl⟩⟩) | (go_at_call 18; (with_reducible refine (bit_Eq.calls a0 a1 t235 _ (by repeat (first | exact HG.out | apply Glob.drewN | apply Glob.drew)) A29.out).mono ?_); rintro e w' ⟨rfl, ⟨nd, rfl⟩⟩) | (go_at_call 31; (with_reducible refine (netlabref01_Eq.calls kj3 a0 a1 t236 _ A30.out).mono ?_); rintro e w' ⟨rfl, ⟨nd, rfl⟩⟩))
                  go_meet
                  case rel => exact ⟨_, (true), (by first | rfl | (simp; done) | (simp [*]; done)), H', ⟨by have := HJ3.out; first | omega | exact Nat.le_refl _⟩, by repeat (first | exact Drawn0.refl _ | apply Drawn0.step)⟩
              · rw [if_neg c28] at H
                have c28b0 : (t233 == t234) = false := beq_eq_false_iff_ne.mpr c28
                have c28b1 : (t233 != t234) = true := bne_iff_ne.mpr c28
                have H' := Aside0.mk H
                clear H
                go_wp2_with (first | ((with_reducible refine gate_callee (f := 15) rfl ?_); refine goesL_ (some 42) rfl rfl Tryd.func15 (by kernel_rfl) rfl #[.int .u8 a0, .int .u8 a1] rfl (by (try simp only [List.map_toArray, List.map_cons, List.map_nil]); first | done | rfl | (simp only [List.length_drop, List.length_take]; rfl)) ?_; (with_reducible refine (bit_And.calls a0 a1 t229 _ (by repeat (first | exact HG.out | apply Glob.drewN | apply Glob.drew)) A20.out).mono ?_); rintro e w' ⟨rfl, ⟨nd, rfl⟩⟩; refine ⟨_, rfl, ?_⟩) | ((with_reducible refine gate_callee (f := 28) rfl ?_); refine goesL_ (some 45) rfl rfl Tryd.func28 (by kernel_rfl) rfl #[.int .u8 a0, .int .u8 a1] rfl (by (try simp only [List.map_toArray, List.map_cons, List.map_nil]); first | done | rfl | (simp only [List.length_drop, List.length_take]; rfl)) ?_; (with_reducible refine (netlabref01_And.calls kj3 a0 a1 t230 _ A21.out).mono ?_); rintro e w' ⟨rfl, ⟨nd, rfl⟩⟩; refine ⟨_, rfl, ?_⟩) | (go_at_call 16; (with_reducible refine (bit_Or.calls a0 a1 t231 _ (by repeat (first | exact HG.out | apply Glob.drewN | apply Glob.drew)) A23.out).mono ?_); rintro e w' ⟨rfl, ⟨nd, rfl⟩⟩) | (go_at_call 29; (with_reducible refine (netlabref01_Or.calls kj3 a0 a1 t232 _ A24.out).mono ?_); rintro e w' ⟨rfl, ⟨nd, rfl⟩⟩) | (go_at_call 17; (with_reducible refine (bit_Xor.calls a0 a1 t233 _ (by repeat (first | exact HG.out | apply Glob.drewN | apply Glob.drew)) A26.out).mono ?_); rintro e w' ⟨rfl, ⟨nd, rfl⟩⟩) | (go_at_call 30; (with_reducible refine (netlabref01_Xor.calls kj3 a0 a1 t234 _ A27.out).mono ?_); rintro e w' ⟨rfl, ⟨nd, rfl⟩⟩))
                go_meet
                case rel => exact ⟨_, (true), (by first | rfl | (simp; done) | (simp [*]; done)), H', ⟨by have := HJ3.out; first | omega | exact Nat.le_refl _⟩, by repeat (first | exact Drawn0.refl _ | apply Drawn0.step)⟩
            · rw [if_neg c25] at H
              have c25b0 : (t231 == t232) = false := beq_eq_false_iff_ne.mpr c25
              have c25b1 : (t231 != t232) = true := bne_iff_ne.mpr c25
              have H' := Aside0.mk H
              clear H
              go_wp2_with (first | ((with_reducible refine gate_callee (f := 15) rfl ?_); refine goesL_ (some 42) rfl rfl Tryd.func15 (by kernel_rfl) rfl #[.int .u8 a0, .int .u8 a1] rfl (by (try simp only [List.map_toArray, List.map_cons, List.map_nil]); first | done | rfl | (simp only [List.length_drop, List.length_take]; rfl)) ?_; (with_reducible refine (bit_And.calls a0 a1 t229 _ (by repeat (first | exact HG.out | apply Glob.drewN | apply Glob.drew)) A20.out).mono ?_); rintro e w' ⟨rfl, ⟨nd, rfl⟩⟩; refine ⟨_, rfl, ?_⟩) | ((with_reducible refine gate_callee (f := 28) rfl ?_); refine goesL_ (some 45) rfl rfl Tryd.func28 (by kernel_rfl) rfl #[.int .u8 a0, .int .u8 a1] rfl (by (try simp only [List.map_toArray, List.map_cons, List.map_nil]); first | done | rfl | (simp only [List.length_drop, List.length_take]; rfl)) ?_; (with_reducible refine (netlabref01_And.calls kj3 a0 a1 t230 _ A21.out).mono ?_); rintro e w' ⟨rfl, ⟨nd, rfl⟩⟩; refine ⟨_, rfl, ?_⟩) | (go_at_call 16; (with_reducible refine (bit_Or.calls a0 a1 t231 _ (by repeat (first | exact HG.out | apply Glob.drewN | apply Glob.drew)) A23.out).mono ?_); rintro e w' ⟨rfl, ⟨nd, rfl⟩⟩) | (go_at_call 29; (with_reducible refine (netlabref01_Or.calls kj3 a0 a1 t232 _ A24.out).mono ?_); rintro e w' ⟨rfl, ⟨nd, rfl⟩⟩))
              go_meet
              case rel => exact ⟨_, (true), (by first | rfl | (simp; done) | (simp [*]; done)), H', ⟨by have := HJ3.out; first | omega | exact Nat.le_refl _⟩, by repeat (first | exact Drawn0.refl _ | apply Drawn0.step)⟩
          · rw [if_neg c22] at H
            have c22b0 : (t229 == t230) = false := beq_eq_false_iff_ne.mpr c22
            have c22b1 : (t229 != t230) = true := bne_iff_ne.mpr c22
            (first | rw [c22b0] | (simp only [i64_w, i32_w]; rw [c22b0]) | skip)
            have H' := Aside0.mk H
            clear H
            go_wp2_with (first | ((with_reducible refine gate_callee (f := 15) rfl ?_); refine goesL_ (some 42) rfl rfl Tryd.func15 (by kernel_rfl) rfl #[.int .u8 a0, .int .u8 a1] rfl (by (try simp only [List.map_toArray, List.map_cons, List.map_nil]); first | done | rfl | (simp only [List.length_drop, List.length_take]; rfl)) ?_; (with_reducible refine (bit_And.calls a0 a1 t229 _ (by repeat (first | exact HG.out | apply Glob.drewN | apply Glob.drew)) A20.out).mono ?_); rintro e w' ⟨rfl, ⟨nd, rfl⟩⟩; refine ⟨_, rfl, ?_⟩) | ((with_reducible refine gate_callee (f := 28) rfl ?_); refine goesL_ (some 45) rfl rfl Tryd.func28 (by kernel_rfl) rfl #[.int .u8 a0, .int .u8 a1] rfl (by (try simp only [List.map_toArray, List.map_cons, List.map_nil]); first | done | rfl | (simp only [List.length_drop, List.length_take]; rfl)) ?_; (with_reducible refine (netlabref01_And.calls kj3 a0 a1 t230 _ A21.out).mono ?_); rintro e w' ⟨rfl, ⟨nd, rfl⟩⟩; refine ⟨_, rfl, ?_⟩))
            go_meet
            case rel => exact ⟨_, (true), (by first | rfl | (simp; done) | (simp [*]; done)), H', ⟨by have := HJ3.out; first | omega | exact Nat.le_refl _⟩, by repeat (first | exact Drawn0.refl _ | apply Drawn0.step)⟩
        case rest =>
          clear HC19
          try clear c1
          try clear c2
          try clear p2
          try clear c3
          try clear c6
          try clear c6b0
          try clear c6b1
          try clear c6b2
          try clear c9
          try clear c9b0
          try clear c9b1
          try clear c9b2
          try clear c12
          try clear c12b0
          try clear c12b1
          try clear c15
          try clear c15b0
          try clear c15b1
          try clear c18
          try clear c22
          try clear c22b0
          try clear c22b1
          try clear c25
          try clear c25b0
          try clear c25b1
          try clear c28
          try clear c28b0
          try clear c28b1
          try clear c31
          try clear c31b0
          try clear c31b1
          try clear c34
          try clear c34b0
          try clear c34b1
          try clear c34b2
          try clear p2
          obtain ⟨kq, x91_18, rfl, HA, HJ18, ⟨mc18, rfl⟩⟩ := hcut
          cases kq with
          | zero => exact absurd HA.out (by simp [netlablaw01_BitMatches.j1])
          | succ kj18 =>
            have H := HA.out
            clear HA
            simp only [netlablaw01_BitMatches.j1] at H
            by_cases c37 : x91_18 = true
            · subst c37
              have H1 : (some false) = some r := by rw [if_pos rfl] at H; exact H
              clear H
              have H := H1
              clear H1
              obtain rfl := Option.some.inj H
              go_wp2
              go_ret
              exact ⟨by first | rfl | (simp; done) | (simp [*]; done), by repeat (first | exact Drawn0.refl _ | apply Drawn0.step)⟩
            · replace c37 := Bool.eq_false_iff.mpr c37
              subst c37
              have H1 : ((bit_Mux.f a0 a1 a2).bind fun t241 => ((netlabref01_Mux.f a0 a1 a2).bind fun t242 => (if t241 = t242 then ((netlablaw01_awake.f kj18).bind fun t243 => (some t243)) else (some false)))) = some r := by rw [if_neg (show ¬ (false = true) by decide)] at H; exact H
              clear H
              have H := H1
              clear H1
              replace H := Option.bind_eq_some_iff.mp H
              obtain ⟨t241, A380, H⟩ := H
              replace H : ((netlabref01_Mux.f a0 a1 a2).bind fun t242 => (if t241 = t242 then ((netlablaw01_awake.f kj18).bind fun t243 => (some t243)) else (some false))) = some r := H
              have A38 := Aside0.mk A380
              clear A380
              replace H := Option.bind_eq_some_iff.mp H
              obtain ⟨t242, A390, H⟩ := H
              replace H : (if t241 = t242 then ((netlablaw01_awake.f kj18).bind fun t243 => (some t243)) else (some false)) = some r := H
              have A39 := Aside0.mk A390
              clear A390
              by_cases c40 : t241 = t242
              · rw [if_pos c40] at H
                have c40b0 : (t241 == t242) = true := beq_iff_eq.mpr c40
                have c40b1 : (t241 != t242) = false := bne_eq_false_iff_eq.mpr c40
                clear c40
                replace H := Option.bind_eq_some_iff.mp H
                obtain ⟨t243, A410, H⟩ := H
                replace H : (some t243) = some r := H
                have A41 := Aside0.mk A410
                clear A410
                obtain rfl := Option.some.inj H
                go_wp2_with (first | ((with_reducible refine gate_callee (f := 19) rfl ?_); refine goesL_ (some 95) rfl rfl Tryd.func19 (by kernel_rfl) rfl #[.int .u8 a0, .int .u8 a1, .int .u8 a2] rfl (by (try simp only [List.map_toArray, List.map_cons, List.map_nil]); first | done | rfl | (simp only [List.length_drop, List.length_take]; rfl)) ?_; (with_reducible refine (bit_Mux.calls a0 a1 a2 t241 _ (by repeat (first | exact HG.out | apply Glob.drewN | apply Glob.drew)) A38.out).mono ?_); rintro e w' ⟨rfl, ⟨nd, rfl⟩⟩; refine ⟨_, rfl, ?_⟩) | ((with_reducible refine gate_callee (f := 34) rfl ?_); refine goesL_ (some 99) rfl rfl Tryd.func34 (by kernel_rfl) rfl #[.int .u8 a0, .int .u8 a1, .int .u8 a2] rfl (by (try simp only [List.map_toArray, List.map_cons, List.map_nil]); first | done | rfl | (simp only [List.length_drop, List.length_take]; rfl)) ?_; (with_reducible refine (netlabref01_Mux.calls a0 a1 a2 t242 _ A39.out).mono ?_); rintro e w' ⟨rfl, ⟨nd, rfl⟩⟩; refine ⟨_, rfl, ?_⟩) | (go_at_call 12; (with_reducible refine (netlablaw01_awake.calls kj18  t243 _ (by repeat (first | exact HG.out | apply Glob.drewN | apply Glob.drew)) A41.out).mono ?_); rintro e w' ⟨rfl, ⟨nd, rfl⟩⟩))
                go_ret
                exact ⟨by first | rfl | (simp; done) | (simp [*]; done), by repeat (first | exact Drawn0.refl _ | apply Drawn0.step)⟩
              · rw [if_neg c40] at H
                have c40b0 : (t241 == t242) = false := beq_eq_false_iff_ne.mpr c40
                have c40b1 : (t241 != t242) = true := bne_iff_ne.mpr c40
                obtain rfl := Option.some.inj H
                go_wp2_with (first | ((with_reducible refine gate_callee (f := 19) rfl ?_); refine goesL_ (some 95) rfl rfl Tryd.func19 (by kernel_rfl) rfl #[.int .u8 a0, .int .u8 a1, .int .u8 a2] rfl (by (try simp only [List.map_toArray, List.map_cons, List.map_nil]); first | done | rfl | (simp only [List.length_drop, List.length_take]; rfl)) ?_; (with_reducible refine (bit_Mux.calls a0 a1 a2 t241 _ (by repeat (first | exact HG.out | apply Glob.drewN | apply Glob.drew)) A38.out).mono ?_); rintro e w' ⟨rfl, ⟨nd, rfl⟩⟩; refine ⟨_, rfl, ?_⟩) | ((with_reducible refine gate_callee (f := 34) rfl ?_); refine goesL_ (some 99) rfl rfl Tryd.func34 (by kernel_rfl) rfl #[.int .u8 a0, .int .u8 a1, .int .u8 a2] rfl (by (try simp only [List.map_toArray, List.map_cons, List.map_nil]); first | done | rfl | (simp only [List.length_drop, List.length_take]; rfl)) ?_; (with_reducible refine (netlabref01_Mux.calls a0 a1 a2 t242 _ A39.out).mono ?_); rintro e w' ⟨rfl, ⟨nd, rfl⟩⟩; refine ⟨_, rfl, ?_⟩))
                go_ret
                exact ⟨by first | rfl | (simp; done) | (simp [*]; done), by repeat (first | exact Drawn0.refl _ | apply Drawn0.step)⟩

-- NOT PRINTED: function 7 (netlablaw01_BitExamples)

end Go.Proofs.YteioheookffjiaaDoor.F
