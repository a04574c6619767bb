-- Written by a program of this session (wip/tools/drive.py) over the kit's print.py.
import Derived.Test.YteioheookffjiaaDoorF0
import Derived.Test.YteioheookffjiaaDoorF1
import Derived.Test.YteioheookffjiaaDoorF2
namespace Go.Proofs.YteioheookffjiaaDoor.F
open Go.RowKit Go.Proofs.YteioheookffjiaaDoorW.PrintWords Go.Proofs.YteioheookffjiaaDoorW.PrintLast Go.Proofs.YteioheookffjiaaDoorW.PrintMore
attribute [local go_sem] max2_int min2_int max_two min_two max_three min_three max_four min_four   -- for this text's walks alone
set_option linter.unusedVariables false
set_option linter.unusedSimpArgs false

/-! ### netlablaw01_BitMonotone: function 3 -/
def netlablaw01_BitMonotone.j0 : Nat → Int → Int → Int → Int → Int → Int → Bool → Option (Bool)
  | 0, _, _, _, _, _, _, _ => none
  | k + 1, x0, x1, x2, x3, x4, x5, x28 => if x28 = true then ((netlablaw01_awake.f k).bind fun t130 => (some t130)) else ((bit_Not.f x0).bind fun t131 => ((bit_Not.f x3).bind fun t132 => ((bit_Leq.f t131 t132).bind fun t133 => (if t133 = true then ((bit_Buf.f x0).bind fun t134 => ((bit_Buf.f x3).bind fun t135 => ((bit_Leq.f t134 t135).bind fun t136 => (if t136 = true then ((bit_And.f x0 x1).bind fun t137 => ((bit_And.f x3 x4).bind fun t138 => ((bit_Leq.f t137 t138).bind fun t139 => (if t139 = true then ((bit_Or.f x0 x1).bind fun t140 => ((bit_Or.f x3 x4).bind fun t141 => ((bit_Leq.f t140 t141).bind fun t142 => (if t142 = true then ((bit_Xor.f x0 x1).bind fun t143 => ((bit_Xor.f x3 x4).bind fun t144 => ((bit_Leq.f t143 t144).bind fun t145 => (if t145 = true then ((bit_Eq.f x0 x1).bind fun t146 => ((bit_Eq.f x3 x4).bind fun t147 => ((bit_Leq.f t146 t147).bind fun t148 => (if t148 = true then ((bit_Mux.f x0 x1 x2).bind fun t149 => ((bit_Mux.f x3 x4 x5).bind fun t150 => ((bit_Leq.f t149 t150).bind fun t151 => (if t151 = true then ((netlablaw01_awake.f k).bind fun t152 => (some t152)) else (some false))))) else (some false))))) else (some false))))) else (some false))))) else (some false))))) else (some false))))) else (some false)))))
def netlablaw01_BitMonotone.f (k : Nat) (a0 : Int) (a1 : Int) (a2 : Int) (a3 : Int) (a4 : Int) (a5 : Int) : Option (Bool) := (bit_Leq.f a0 a3).bind fun t127 => (if t127 = true then ((bit_Leq.f a1 a4).bind fun t128 => (if t128 = true then ((bit_Leq.f a2 a5).bind fun t129 => (netlablaw01_BitMonotone.j0 k a0 a1 a2 a3 a4 a5 (!t129))) else (netlablaw01_BitMonotone.j0 k a0 a1 a2 a3 a4 a5 true))) else (netlablaw01_BitMonotone.j0 k a0 a1 a2 a3 a4 a5 true))
theorem netlablaw01_BitMonotone.mono_l : ∀ k, (∀ y0 y1 y2 y3 y4 y5 y6, LeO (netlablaw01_BitMonotone.j0 k y0 y1 y2 y3 y4 y5 y6) (netlablaw01_BitMonotone.j0 (k + 1) y0 y1 y2 y3 y4 y5 y6))
  | 0 => fun _ _ _ _ _ _ _ r h => by simp [netlablaw01_BitMonotone.j0] at h
  | k + 1 => by
    have ih0 := netlablaw01_BitMonotone.mono_l k
    · intro y0 y1 y2 y3 y4 y5 y6
      unfold netlablaw01_BitMonotone.j0
      repeat' first
      | (with_reducible exact ih0 _ _ _ _ _ _ _)
      | (with_reducible exact netlablaw01_awake.mono _)
      | (with_reducible exact LeO.refl _)
      | (with_reducible exact LeO.none _)
      | (with_reducible refine LeO.ite ?_ ?_)
      | (with_reducible refine LeO.bind ?_ (fun _ => ?_))
      | exact ih0 _ _ _ _ _ _ _
      | exact netlablaw01_awake.mono _
      | exact LeO.none _
      | refine LeO.ite ?_ ?_
      | refine LeO.bind ?_ (fun _ => ?_)
theorem netlablaw01_BitMonotone.mono : ∀ a0 a1 a2 a3 a4 a5 k, LeO (netlablaw01_BitMonotone.f k a0 a1 a2 a3 a4 a5) (netlablaw01_BitMonotone.f (k + 1) a0 a1 a2 a3 a4 a5) := by
  intro a0 a1 a2 a3 a4 a5 k
  have ih0 := netlablaw01_BitMonotone.mono_l k
  unfold netlablaw01_BitMonotone.f
  repeat' first
      | (with_reducible exact ih0 _ _ _ _ _ _ _)
      | (with_reducible exact netlablaw01_awake.mono _)
      | (with_reducible exact LeO.refl _)
      | (with_reducible exact LeO.none _)
      | (with_reducible refine LeO.ite ?_ ?_)
      | (with_reducible refine LeO.bind ?_ (fun _ => ?_))
      | exact ih0 _ _ _ _ _ _ _
      | exact netlablaw01_awake.mono _
      | exact LeO.none _
      | refine LeO.ite ?_ ?_
      | refine LeO.bind ?_ (fun _ => ?_)
set_option maxHeartbeats 8000000 in
set_option maxRecDepth 100000 in
theorem netlablaw01_BitMonotone.calls (k : Nat) (a0 : Int) (a1 : Int) (a2 : Int) (a3 : Int) (a4 : Int) (a5 : Int) (r : Bool) (w : World) (hG : Glob w) (h : netlablaw01_BitMonotone.f k a0 a1 a2 a3 a4 a5 = some r) :
    Calls Tryd.prog 3 #[.int .u8 a0, .int .u8 a1, .int .u8 a2, .int .u8 a3, .int .u8 a4, .int .u8 a5] w fun e w' => e = .returned (.bool r) ∧ Drawn0 w w' := by
  have HG := Aside0.mk hG
  clear hG
  have H : ((bit_Leq.f a0 a3).bind fun t127 => (if t127 = true then ((bit_Leq.f a1 a4).bind fun t128 => (if t128 = true then ((bit_Leq.f a2 a5).bind fun t129 => (netlablaw01_BitMonotone.j0 k a0 a1 a2 a3 a4 a5 (!t129))) else (netlablaw01_BitMonotone.j0 k a0 a1 a2 a3 a4 a5 true))) else (netlablaw01_BitMonotone.j0 k a0 a1 a2 a3 a4 a5 true))) = some r := h
  clear h
  have HC7 := Aside0.mk H
  clear H
  go_enter Tryd.func3, Tryd.ntmps3
  go_upto_region 1 with (fail)
  go_cut [28] (fun v28 wc => ∃ (kq : Nat) (x28_6 : Bool), v28 = .bool x28_6 ∧ Aside0 (netlablaw01_BitMonotone.j0 kq a0 a1 a2 a3 a4 a5 x28_6 = some r) ∧ Aside0 (kq ≤ k) ∧ Drawn0 w wc)
  case first =>
    have H := HC7.out
    clear HC7
    replace H := Option.bind_eq_some_iff.mp H
    obtain ⟨t127, A80, H⟩ := H
    replace H : (if t127 = true then ((bit_Leq.f a1 a4).bind fun t128 => (if t128 = true then ((bit_Leq.f a2 a5).bind fun t129 => (netlablaw01_BitMonotone.j0 k a0 a1 a2 a3 a4 a5 (!t129))) else (netlablaw01_BitMonotone.j0 k a0 a1 a2 a3 a4 a5 true))) else (netlablaw01_BitMonotone.j0 k a0 a1 a2 a3 a4 a5 true)) = some r := H
    have A8 := Aside0.mk A80
    clear A80
    by_cases c9 : t127 = true
    · subst c9
      have H1 : ((bit_Leq.f a1 a4).bind fun t128 => (if t128 = true then ((bit_Leq.f a2 a5).bind fun t129 => (netlablaw01_BitMonotone.j0 k a0 a1 a2 a3 a4 a5 (!t129))) else (netlablaw01_BitMonotone.j0 k a0 a1 a2 a3 a4 a5 true))) = some r := by rw [if_pos rfl] at H; exact H
      clear H
      have H := H1
      clear H1
      replace H := Option.bind_eq_some_iff.mp H
      obtain ⟨t128, A100, H⟩ := H
      replace H : (if t128 = true then ((bit_Leq.f a2 a5).bind fun t129 => (netlablaw01_BitMonotone.j0 k a0 a1 a2 a3 a4 a5 (!t129))) else (netlablaw01_BitMonotone.j0 k a0 a1 a2 a3 a4 a5 true)) = some r := H
      have A10 := Aside0.mk A100
      clear A100
      by_cases c11 : t128 = true
      · subst c11
        have H1 : ((bit_Leq.f a2 a5).bind fun t129 => (netlablaw01_BitMonotone.j0 k a0 a1 a2 a3 a4 a5 (!t129))) = some r := by rw [if_pos rfl] at H; exact H
        clear H
        have H := H1
        clear H1
        replace H := Option.bind_eq_some_iff.mp H
        obtain ⟨t129, A120, H⟩ := H
        replace H : (netlablaw01_BitMonotone.j0 k a0 a1 a2 a3 a4 a5 (!t129)) = some r := H
        have A12 := Aside0.mk A120
        clear A120
        have H' := Aside0.mk H
        clear H
        go_wp2_with (first | ((with_reducible refine gate_callee (f := 11) rfl ?_); refine goesL_ (some 15) rfl rfl Tryd.func11 (by kernel_rfl) rfl #[.int .u8 a0, .int .u8 a3] rfl (by (try simp only [List.map_toArray, List.map_cons, List.map_nil]); first | done | rfl | (simp only [List.length_drop, List.length_take]; rfl)) ?_; (with_reducible refine (bit_Leq.calls a0 a3 true _ A8.out).mono ?_); rintro e w' ⟨rfl, ⟨nd, rfl⟩⟩; refine ⟨_, rfl, ?_⟩) | (go_at_call 11; (with_reducible refine (bit_Leq.calls a1 a4 true _ A10.out).mono ?_); rintro e w' ⟨rfl, ⟨nd, rfl⟩⟩) | (go_at_call 11; (with_reducible refine (bit_Leq.calls a2 a5 t129 _ A12.out).mono ?_); rintro e w' ⟨rfl, ⟨nd, rfl⟩⟩))
        go_meet
        case rel => exact ⟨_, (!t129), (by first | rfl | (simp; done) | (simp [*]; done)), H', ⟨by first | omega | exact Nat.le_refl _⟩, by repeat (first | exact Drawn0.refl _ | apply Drawn0.step)⟩
      · replace c11 := Bool.eq_false_iff.mpr c11
        subst c11
        have H1 : (netlablaw01_BitMonotone.j0 k a0 a1 a2 a3 a4 a5 true) = some r := by rw [if_neg (show ¬ (false = true) by decide)] at H; exact H
        clear H
        have H := H1
        clear H1
        have H' := Aside0.mk H
        clear H
        go_wp2_with (first | ((with_reducible refine gate_callee (f := 11) rfl ?_); refine goesL_ (some 15) rfl rfl Tryd.func11 (by kernel_rfl) rfl #[.int .u8 a0, .int .u8 a3] rfl (by (try simp only [List.map_toArray, List.map_cons, List.map_nil]); first | done | rfl | (simp only [List.length_drop, List.length_take]; rfl)) ?_; (with_reducible refine (bit_Leq.calls a0 a3 true _ A8.out).mono ?_); rintro e w' ⟨rfl, ⟨nd, rfl⟩⟩; refine ⟨_, rfl, ?_⟩) | (go_at_call 11; (with_reducible refine (bit_Leq.calls a1 a4 false _ A10.out).mono ?_); rintro e w' ⟨rfl, ⟨nd, rfl⟩⟩))
        go_meet
        case rel => exact ⟨_, (true), (by first | rfl | (simp; done) | (simp [*]; done)), H', ⟨by first | omega | exact Nat.le_refl _⟩, by repeat (first | exact Drawn0.refl _ | apply Drawn0.step)⟩
    · replace c9 := Bool.eq_false_iff.mpr c9
      subst c9
      have H1 : (netlablaw01_BitMonotone.j0 k a0 a1 a2 a3 a4 a5 true) = some r := by rw [if_neg (show ¬ (false = true) by decide)] at H; exact H
      clear H
      have H := H1
      clear H1
      have H' := Aside0.mk H
      clear H
      go_wp2_with (first | ((with_reducible refine gate_callee (f := 11) rfl ?_); refine goesL_ (some 15) rfl rfl Tryd.func11 (by kernel_rfl) rfl #[.int .u8 a0, .int .u8 a3] rfl (by (try simp only [List.map_toArray, List.map_cons, List.map_nil]); first | done | rfl | (simp only [List.length_drop, List.length_take]; rfl)) ?_; (with_reducible refine (bit_Leq.calls a0 a3 false _ A8.out).mono ?_); rintro e w' ⟨rfl, ⟨nd, rfl⟩⟩; refine ⟨_, rfl, ?_⟩))
      go_meet
      case rel => exact ⟨_, (true), (by first | rfl | (simp; done) | (simp [*]; done)), H', ⟨by first | omega | exact Nat.le_refl _⟩, by repeat (first | exact Drawn0.refl _ | apply Drawn0.step)⟩
  case rest =>
    clear HC7
    try clear c1
    try clear p2
    try clear c3
    try clear c9
    try clear c11
    obtain ⟨kq, x28_6, rfl, HA, HJ6, ⟨mc6, rfl⟩⟩ := hcut
    cases kq with
    | zero => exact absurd HA.out (by simp [netlablaw01_BitMonotone.j0])
    | succ kj6 =>
      have H := HA.out
      clear HA
      simp only [netlablaw01_BitMonotone.j0] at H
      by_cases c13 : x28_6 = true
      · subst c13
        have H1 : ((netlablaw01_awake.f kj6).bind fun t130 => (some t130)) = some r := by rw [if_pos rfl] at H; exact H
        clear H
        have H := H1
        clear H1
        replace H := Option.bind_eq_some_iff.mp H
        obtain ⟨t130, A140, H⟩ := H
        replace H : (some t130) = some r := H
        have A14 := Aside0.mk A140
        clear A140
        obtain rfl := Option.some.inj H
        go_wp2_with (first | ((with_reducible refine gate_callee (f := 12) rfl ?_); refine goesL_ (some 29) rfl rfl Tryd.func12 (by kernel_rfl) rfl #[] rfl (by (try simp only [List.map_toArray, List.map_cons, List.map_nil]); first | done | rfl | (simp only [List.length_drop, List.length_take]; rfl)) ?_; (with_reducible refine (netlablaw01_awake.calls kj6  t130 _ (by repeat (first | exact HG.out | apply Glob.drewN | apply Glob.drew)) A14.out).mono ?_); rintro e w' ⟨rfl, ⟨nd, rfl⟩⟩; refine ⟨_, rfl, ?_⟩))
        go_ret
        exact ⟨by first | rfl | (simp; done) | (simp [*]; done), by repeat (first | exact Drawn0.refl _ | apply Drawn0.step)⟩
      · replace c13 := Bool.eq_false_iff.mpr c13
        subst c13
        have H1 : ((bit_Not.f a0).bind fun t131 => ((bit_Not.f a3).bind fun t132 => ((bit_Leq.f t131 t132).bind fun t133 => (if t133 = true then ((bit_Buf.f a0).bind fun t134 => ((bit_Buf.f a3).bind fun t135 => ((bit_Leq.f t134 t135).bind fun t136 => (if t136 = true then ((bit_And.f a0 a1).bind fun t137 => ((bit_And.f a3 a4).bind fun t138 => ((bit_Leq.f t137 t138).bind fun t139 => (if t139 = true then ((bit_Or.f a0 a1).bind fun t140 => ((bit_Or.f a3 a4).bind fun t141 => ((bit_Leq.f t140 t141).bind fun t142 => (if t142 = true then ((bit_Xor.f a0 a1).bind fun t143 => ((bit_Xor.f a3 a4).bind fun t144 => ((bit_Leq.f t143 t144).bind fun t145 => (if t145 = true then ((bit_Eq.f a0 a1).bind fun t146 => ((bit_Eq.f a3 a4).bind fun t147 => ((bit_Leq.f t146 t147).bind fun t148 => (if t148 = true then ((bit_Mux.f a0 a1 a2).bind fun t149 => ((bit_Mux.f a3 a4 a5).bind fun t150 => ((bit_Leq.f t149 t150).bind fun t151 => (if t151 = true then ((netlablaw01_awake.f kj6).bind fun t152 => (some t152)) else (some false))))) else (some false))))) else (some false))))) else (some false))))) else (some false))))) else (some false))))) else (some false))))) = some r := by rw [if_neg (show ¬ (false = true) by decide)] at H; exact H
        clear H
        have H := H1
        clear H1
        replace H := Option.bind_eq_some_iff.mp H
        obtain ⟨t131, A150, H⟩ := H
        replace H : ((bit_Not.f a3).bind fun t132 => ((bit_Leq.f t131 t132).bind fun t133 => (if t133 = true then ((bit_Buf.f a0).bind fun t134 => ((bit_Buf.f a3).bind fun t135 => ((bit_Leq.f t134 t135).bind fun t136 => (if t136 = true then ((bit_And.f a0 a1).bind fun t137 => ((bit_And.f a3 a4).bind fun t138 => ((bit_Leq.f t137 t138).bind fun t139 => (if t139 = true then ((bit_Or.f a0 a1).bind fun t140 => ((bit_Or.f a3 a4).bind fun t141 => ((bit_Leq.f t140 t141).bind fun t142 => (if t142 = true then ((bit_Xor.f a0 a1).bind fun t143 => ((bit_Xor.f a3 a4).bind fun t144 => ((bit_Leq.f t143 t144).bind fun t145 => (if t145 = true then ((bit_Eq.f a0 a1).bind fun t146 => ((bit_Eq.f a3 a4).bind fun t147 => ((bit_Leq.f t146 t147).bind fun t148 => (if t148 = true then ((bit_Mux.f a0 a1 a2).bind fun t149 => ((bit_Mux.f a3 a4 a5).bind fun t150 => ((bit_Leq.f t149 t150).bind fun t151 => (if t151 = true then ((netlablaw01_awake.f kj6).bind fun t152 => (some t152)) else (some false))))) else (some false))))) else (some false))))) else (some false))))) else (some false))))) else (some false))))) else (some false)))) = some r := H
        have A15 := Aside0.mk A150
        clear A150
        replace H := Option.bind_eq_some_iff.mp H
        obtain ⟨t132, A160, H⟩ := H
        replace H : ((bit_Leq.f t131 t132).bind fun t133 => (if t133 = true then ((bit_Buf.f a0).bind fun t134 => ((bit_Buf.f a3).bind fun t135 => ((bit_Leq.f t134 t135).bind fun t136 => (if t136 = true then ((bit_And.f a0 a1).bind fun t137 => ((bit_And.f a3 a4).bind fun t138 => ((bit_Leq.f t137 t138).bind fun t139 => (if t139 = true then ((bit_Or.f a0 a1).bind fun t140 => ((bit_Or.f a3 a4).bind fun t141 => ((bit_Leq.f t140 t141).bind fun t142 => (if t142 = true then ((bit_Xor.f a0 a1).bind fun t143 => ((bit_Xor.f a3 a4).bind fun t144 => ((bit_Leq.f t143 t144).bind fun t145 => (if t145 = true then ((bit_Eq.f a0 a1).bind fun t146 => ((bit_Eq.f a3 a4).bind fun t147 => ((bit_Leq.f t146 t147).bind fun t148 => (if t148 = true then ((bit_Mux.f a0 a1 a2).bind fun t149 => ((bit_Mux.f a3 a4 a5).bind fun t150 => ((bit_Leq.f t149 t150).bind fun t151 => (if t151 = true then ((netlablaw01_awake.f kj6).bind fun t152 => (some t152)) else (some false))))) else (some false))))) else (some false))))) else (some false))))) else (some false))))) else (some false))))) else (some false))) = some r := H
        have A16 := Aside0.mk A160
        clear A160
        replace H := Option.bind_eq_some_iff.mp H
        obtain ⟨t133, A170, H⟩ := H
        replace H : (if t133 = true then ((bit_Buf.f a0).bind fun t134 => ((bit_Buf.f a3).bind fun t135 => ((bit_Leq.f t134 t135).bind fun t136 => (if t136 = true then ((bit_And.f a0 a1).bind fun t137 => ((bit_And.f a3 a4).bind fun t138 => ((bit_Leq.f t137 t138).bind fun t139 => (if t139 = true then ((bit_Or.f a0 a1).bind fun t140 => ((bit_Or.f a3 a4).bind fun t141 => ((bit_Leq.f t140 t141).bind fun t142 => (if t142 = true then ((bit_Xor.f a0 a1).bind fun t143 => ((bit_Xor.f a3 a4).bind fun t144 => ((bit_Leq.f t143 t144).bind fun t145 => (if t145 = true then ((bit_Eq.f a0 a1).bind fun t146 => ((bit_Eq.f a3 a4).bind fun t147 => ((bit_Leq.f t146 t147).bind fun t148 => (if t148 = true then ((bit_Mux.f a0 a1 a2).bind fun t149 => ((bit_Mux.f a3 a4 a5).bind fun t150 => ((bit_Leq.f t149 t150).bind fun t151 => (if t151 = true then ((netlablaw01_awake.f kj6).bind fun t152 => (some t152)) else (some false))))) else (some false))))) else (some false))))) else (some false))))) else (some false))))) else (some false))))) else (some false)) = some r := H
        have A17 := Aside0.mk A170
        clear A170
        by_cases c18 : t133 = true
        · subst c18
          have H1 : ((bit_Buf.f a0).bind fun t134 => ((bit_Buf.f a3).bind fun t135 => ((bit_Leq.f t134 t135).bind fun t136 => (if t136 = true then ((bit_And.f a0 a1).bind fun t137 => ((bit_And.f a3 a4).bind fun t138 => ((bit_Leq.f t137 t138).bind fun t139 => (if t139 = true then ((bit_Or.f a0 a1).bind fun t140 => ((bit_Or.f a3 a4).bind fun t141 => ((bit_Leq.f t140 t141).bind fun t142 => (if t142 = true then ((bit_Xor.f a0 a1).bind fun t143 => ((bit_Xor.f a3 a4).bind fun t144 => ((bit_Leq.f t143 t144).bind fun t145 => (if t145 = true then ((bit_Eq.f a0 a1).bind fun t146 => ((bit_Eq.f a3 a4).bind fun t147 => ((bit_Leq.f t146 t147).bind fun t148 => (if t148 = true then ((bit_Mux.f a0 a1 a2).bind fun t149 => ((bit_Mux.f a3 a4 a5).bind fun t150 => ((bit_Leq.f t149 t150).bind fun t151 => (if t151 = true then ((netlablaw01_awake.f kj6).bind fun t152 => (some t152)) else (some false))))) else (some false))))) else (some false))))) else (some false))))) else (some false))))) else (some false))))) = some r := by rw [if_pos rfl] at H; exact H
          clear H
          have H := H1
          clear H1
          replace H := Option.bind_eq_some_iff.mp H
          obtain ⟨t134, A190, H⟩ := H
          replace H : ((bit_Buf.f a3).bind fun t135 => ((bit_Leq.f t134 t135).bind fun t136 => (if t136 = true then ((bit_And.f a0 a1).bind fun t137 => ((bit_And.f a3 a4).bind fun t138 => ((bit_Leq.f t137 t138).bind fun t139 => (if t139 = true then ((bit_Or.f a0 a1).bind fun t140 => ((bit_Or.f a3 a4).bind fun t141 => ((bit_Leq.f t140 t141).bind fun t142 => (if t142 = true then ((bit_Xor.f a0 a1).bind fun t143 => ((bit_Xor.f a3 a4).bind fun t144 => ((bit_Leq.f t143 t144).bind fun t145 => (if t145 = true then ((bit_Eq.f a0 a1).bind fun t146 => ((bit_Eq.f a3 a4).bind fun t147 => ((bit_Leq.f t146 t147).bind fun t148 => (if t148 = true then ((bit_Mux.f a0 a1 a2).bind fun t149 => ((bit_Mux.f a3 a4 a5).bind fun t150 => ((bit_Leq.f t149 t150).bind fun t151 => (if t151 = true then ((netlablaw01_awake.f kj6).bind fun t152 => (some t152)) else (some false))))) else (some false))))) else (some false))))) else (some false))))) else (some false))))) else (some false)))) = some r := H
          have A19 := Aside0.mk A190
          clear A190
          replace H := Option.bind_eq_some_iff.mp H
          obtain ⟨t135, A200, H⟩ := H
          replace H : ((bit_Leq.f t134 t135).bind fun t136 => (if t136 = true then ((bit_And.f a0 a1).bind fun t137 => ((bit_And.f a3 a4).bind fun t138 => ((bit_Leq.f t137 t138).bind fun t139 => (if t139 = true then ((bit_Or.f a0 a1).bind fun t140 => ((bit_Or.f a3 a4).bind fun t141 => ((bit_Leq.f t140 t141).bind fun t142 => (if t142 = true then ((bit_Xor.f a0 a1).bind fun t143 => ((bit_Xor.f a3 a4).bind fun t144 => ((bit_Leq.f t143 t144).bind fun t145 => (if t145 = true then ((bit_Eq.f a0 a1).bind fun t146 => ((bit_Eq.f a3 a4).bind fun t147 => ((bit_Leq.f t146 t147).bind fun t148 => (if t148 = true then ((bit_Mux.f a0 a1 a2).bind fun t149 => ((bit_Mux.f a3 a4 a5).bind fun t150 => ((bit_Leq.f t149 t150).bind fun t151 => (if t151 = true then ((netlablaw01_awake.f kj6).bind fun t152 => (some t152)) else (some false))))) else (some false))))) else (some false))))) else (some false))))) else (some false))))) else (some false))) = some r := H
          have A20 := Aside0.mk A200
          clear A200
          replace H := Option.bind_eq_some_iff.mp H
          obtain ⟨t136, A210, H⟩ := H
          replace H : (if t136 = true then ((bit_And.f a0 a1).bind fun t137 => ((bit_And.f a3 a4).bind fun t138 => ((bit_Leq.f t137 t138).bind fun t139 => (if t139 = true then ((bit_Or.f a0 a1).bind fun t140 => ((bit_Or.f a3 a4).bind fun t141 => ((bit_Leq.f t140 t141).bind fun t142 => (if t142 = true then ((bit_Xor.f a0 a1).bind fun t143 => ((bit_Xor.f a3 a4).bind fun t144 => ((bit_Leq.f t143 t144).bind fun t145 => (if t145 = true then ((bit_Eq.f a0 a1).bind fun t146 => ((bit_Eq.f a3 a4).bind fun t147 => ((bit_Leq.f t146 t147).bind fun t148 => (if t148 = true then ((bit_Mux.f a0 a1 a2).bind fun t149 => ((bit_Mux.f a3 a4 a5).bind fun t150 => ((bit_Leq.f t149 t150).bind fun t151 => (if t151 = true then ((netlablaw01_awake.f kj6).bind fun t152 => (some t152)) else (some false))))) else (some false))))) else (some false))))) else (some false))))) else (some false))))) else (some false)) = some r := H
          have A21 := Aside0.mk A210
          clear A210
          by_cases c22 : t136 = true
          · subst c22
            have H1 : ((bit_And.f a0 a1).bind fun t137 => ((bit_And.f a3 a4).bind fun t138 => ((bit_Leq.f t137 t138).bind fun t139 => (if t139 = true then ((bit_Or.f a0 a1).bind fun t140 => ((bit_Or.f a3 a4).bind fun t141 => ((bit_Leq.f t140 t141).bind fun t142 => (if t142 = true then ((bit_Xor.f a0 a1).bind fun t143 => ((bit_Xor.f a3 a4).bind fun t144 => ((bit_Leq.f t143 t144).bind fun t145 => (if t145 = true then ((bit_Eq.f a0 a1).bind fun t146 => ((bit_Eq.f a3 a4).bind fun t147 => ((bit_Leq.f t146 t147).bind fun t148 => (if t148 = true then ((bit_Mux.f a0 a1 a2).bind fun t149 => ((bit_Mux.f a3 a4 a5).bind fun t150 => ((bit_Leq.f t149 t150).bind fun t151 => (if t151 = true then ((netlablaw01_awake.f kj6).bind fun t152 => (some t152)) else (some false))))) else (some false))))) else (some false))))) else (some false))))) else (some false))))) = some r := by rw [if_pos rfl] at H; exact H
            clear H
            have H := H1
            clear H1
            replace H := Option.bind_eq_some_iff.mp H
            obtain ⟨t137, A230, H⟩ := H
            replace H : ((bit_And.f a3 a4).bind fun t138 => ((bit_Leq.f t137 t138).bind fun t139 => (if t139 = true then ((bit_Or.f a0 a1).bind fun t140 => ((bit_Or.f a3 a4).bind fun t141 => ((bit_Leq.f t140 t141).bind fun t142 => (if t142 = true then ((bit_Xor.f a0 a1).bind fun t143 => ((bit_Xor.f a3 a4).bind fun t144 => ((bit_Leq.f t143 t144).bind fun t145 => (if t145 = true then ((bit_Eq.f a0 a1).bind fun t146 => ((bit_Eq.f a3 a4).bind fun t147 => ((bit_Leq.f t146 t147).bind fun t148 => (if t148 = true then ((bit_Mux.f a0 a1 a2).bind fun t149 => ((bit_Mux.f a3 a4 a5).bind fun t150 => ((bit_Leq.f t149 t150).bind fun t151 => (if t151 = true then ((netlablaw01_awake.f kj6).bind fun t152 => (some t152)) else (some false))))) else (some false))))) else (some false))))) else (some false))))) else (some false)))) = some r := H
            have A23 := Aside0.mk A230
            clear A230
            replace H := Option.bind_eq_some_iff.mp H
            obtain ⟨t138, A240, H⟩ := H
            replace H : ((bit_Leq.f t137 t138).bind fun t139 => (if t139 = true then ((bit_Or.f a0 a1).bind fun t140 => ((bit_Or.f a3 a4).bind fun t141 => ((bit_Leq.f t140 t141).bind fun t142 => (if t142 = true then ((bit_Xor.f a0 a1).bind fun t143 => ((bit_Xor.f a3 a4).bind fun t144 => ((bit_Leq.f t143 t144).bind fun t145 => (if t145 = true then ((bit_Eq.f a0 a1).bind fun t146 => ((bit_Eq.f a3 a4).bind fun t147 => ((bit_Leq.f t146 t147).bind fun t148 => (if t148 = true then ((bit_Mux.f a0 a1 a2).bind fun t149 => ((bit_Mux.f a3 a4 a5).bind fun t150 => ((bit_Leq.f t149 t150).bind fun t151 => (if t151 = true then ((netlablaw01_awake.f kj6).bind fun t152 => (some t152)) else (some false))))) else (some false))))) else (some false))))) else (some false))))) else (some false))) = some r := H
            have A24 := Aside0.mk A240
            clear A240
            replace H := Option.bind_eq_some_iff.mp H
            obtain ⟨t139, A250, H⟩ := H
            replace H : (if t139 = true then ((bit_Or.f a0 a1).bind fun t140 => ((bit_Or.f a3 a4).bind fun t141 => ((bit_Leq.f t140 t141).bind fun t142 => (if t142 = true then ((bit_Xor.f a0 a1).bind fun t143 => ((bit_Xor.f a3 a4).bind fun t144 => ((bit_Leq.f t143 t144).bind fun t145 => (if t145 = true then ((bit_Eq.f a0 a1).bind fun t146 => ((bit_Eq.f a3 a4).bind fun t147 => ((bit_Leq.f t146 t147).bind fun t148 => (if t148 = true then ((bit_Mux.f a0 a1 a2).bind fun t149 => ((bit_Mux.f a3 a4 a5).bind fun t150 => ((bit_Leq.f t149 t150).bind fun t151 => (if t151 = true then ((netlablaw01_awake.f kj6).bind fun t152 => (some t152)) else (some false))))) else (some false))))) else (some false))))) else (some false))))) else (some false)) = some r := H
            have A25 := Aside0.mk A250
            clear A250
            by_cases c26 : t139 = true
            · subst c26
              have H1 : ((bit_Or.f a0 a1).bind fun t140 => ((bit_Or.f a3 a4).bind fun t141 => ((bit_Leq.f t140 t141).bind fun t142 => (if t142 = true then ((bit_Xor.f a0 a1).bind fun t143 => ((bit_Xor.f a3 a4).bind fun t144 => ((bit_Leq.f t143 t144).bind fun t145 => (if t145 = true then ((bit_Eq.f a0 a1).bind fun t146 => ((bit_Eq.f a3 a4).bind fun t147 => ((bit_Leq.f t146 t147).bind fun t148 => (if t148 = true then ((bit_Mux.f a0 a1 a2).bind fun t149 => ((bit_Mux.f a3 a4 a5).bind fun t150 => ((bit_Leq.f t149 t150).bind fun t151 => (if t151 = true then ((netlablaw01_awake.f kj6).bind fun t152 => (some t152)) else (some false))))) else (some false))))) else (some false))))) else (some false))))) = some r := by rw [if_pos rfl] at H; exact H
              clear H
              have H := H1
              clear H1
              replace H := Option.bind_eq_some_iff.mp H
              obtain ⟨t140, A270, H⟩ := H
              replace H : ((bit_Or.f a3 a4).bind fun t141 => ((bit_Leq.f t140 t141).bind fun t142 => (if t142 = true then ((bit_Xor.f a0 a1).bind fun t143 => ((bit_Xor.f a3 a4).bind fun t144 => ((bit_Leq.f t143 t144).bind fun t145 => (if t145 = true then ((bit_Eq.f a0 a1).bind fun t146 => ((bit_Eq.f a3 a4).bind fun t147 => ((bit_Leq.f t146 t147).bind fun t148 => (if t148 = true then ((bit_Mux.f a0 a1 a2).bind fun t149 => ((bit_Mux.f a3 a4 a5).bind fun t150 => ((bit_Leq.f t149 t150).bind fun t151 => (if t151 = true then ((netlablaw01_awake.f kj6).bind fun t152 => (some t152)) else (some false))))) else (some false))))) else (some false))))) else (some false)))) = some r := H
              have A27 := Aside0.mk A270
              clear A270
              replace H := Option.bind_eq_some_iff.mp H
              obtain ⟨t141, A280, H⟩ := H
              replace H : ((bit_Leq.f t140 t141).bind fun t142 => (if t142 = true then ((bit_Xor.f a0 a1).bind fun t143 => ((bit_Xor.f a3 a4).bind fun t144 => ((bit_Leq.f t143 t144).bind fun t145 => (if t145 = true then ((bit_Eq.f a0 a1).bind fun t146 => ((bit_Eq.f a3 a4).bind fun t147 => ((bit_Leq.f t146 t147).bind fun t148 => (if t148 = true then ((bit_Mux.f a0 a1 a2).bind fun t149 => ((bit_Mux.f a3 a4 a5).bind fun t150 => ((bit_Leq.f t149 t150).bind fun t151 => (if t151 = true then ((netlablaw01_awake.f kj6).bind fun t152 => (some t152)) else (some false))))) else (some false))))) else (some false))))) else (some false))) = some r := H
              have A28 := Aside0.mk A280
              clear A280
              replace H := Option.bind_eq_some_iff.mp H
              obtain ⟨t142, A290, H⟩ := H
              replace H : (if t142 = true then ((bit_Xor.f a0 a1).bind fun t143 => ((bit_Xor.f a3 a4).bind fun t144 => ((bit_Leq.f t143 t144).bind fun t145 => (if t145 = true then ((bit_Eq.f a0 a1).bind fun t146 => ((bit_Eq.f a3 a4).bind fun t147 => ((bit_Leq.f t146 t147).bind fun t148 => (if t148 = true then ((bit_Mux.f a0 a1 a2).bind fun t149 => ((bit_Mux.f a3 a4 a5).bind fun t150 => ((bit_Leq.f t149 t150).bind fun t151 => (if t151 = true then ((netlablaw01_awake.f kj6).bind fun t152 => (some t152)) else (some false))))) else (some false))))) else (some false))))) else (some false)) = some r := H
              have A29 := Aside0.mk A290
              clear A290
              by_cases c30 : t142 = true
              · subst c30
                have H1 : ((bit_Xor.f a0 a1).bind fun t143 => ((bit_Xor.f a3 a4).bind fun t144 => ((bit_Leq.f t143 t144).bind fun t145 => (if t145 = true then ((bit_Eq.f a0 a1).bind fun t146 => ((bit_Eq.f a3 a4).bind fun t147 => ((bit_Leq.f t146 t147).bind fun t148 => (if t148 = true then ((bit_Mux.f a0 a1 a2).bind fun t149 => ((bit_Mux.f a3 a4 a5).bind fun t150 => ((bit_Leq.f t149 t150).bind fun t151 => (if t151 = true then ((netlablaw01_awake.f kj6).bind fun t152 => (some t152)) else (some false))))) else (some false))))) else (some false))))) = some r := by rw [if_pos rfl] at H; exact H
                clear H
                have H := H1
                clear H1
                replace H := Option.bind_eq_some_iff.mp H
                obtain ⟨t143, A310, H⟩ := H
                replace H : ((bit_Xor.f a3 a4).bind fun t144 => ((bit_Leq.f t143 t144).bind fun t145 => (if t145 = true then ((bit_Eq.f a0 a1).bind fun t146 => ((bit_Eq.f a3 a4).bind fun t147 => ((bit_Leq.f t146 t147).bind fun t148 => (if t148 = true then ((bit_Mux.f a0 a1 a2).bind fun t149 => ((bit_Mux.f a3 a4 a5).bind fun t150 => ((bit_Leq.f t149 t150).bind fun t151 => (if t151 = true then ((netlablaw01_awake.f kj6).bind fun t152 => (some t152)) else (some false))))) else (some false))))) else (some false)))) = some r := H
                have A31 := Aside0.mk A310
                clear A310
                replace H := Option.bind_eq_some_iff.mp H
                obtain ⟨t144, A320, H⟩ := H
                replace H : ((bit_Leq.f t143 t144).bind fun t145 => (if t145 = true then ((bit_Eq.f a0 a1).bind fun t146 => ((bit_Eq.f a3 a4).bind fun t147 => ((bit_Leq.f t146 t147).bind fun t148 => (if t148 = true then ((bit_Mux.f a0 a1 a2).bind fun t149 => ((bit_Mux.f a3 a4 a5).bind fun t150 => ((bit_Leq.f t149 t150).bind fun t151 => (if t151 = true then ((netlablaw01_awake.f kj6).bind fun t152 => (some t152)) else (some false))))) else (some false))))) else (some false))) = some r := H
                have A32 := Aside0.mk A320
                clear A320
                replace H := Option.bind_eq_some_iff.mp H
                obtain ⟨t145, A330, H⟩ := H
                replace H : (if t145 = true then ((bit_Eq.f a0 a1).bind fun t146 => ((bit_Eq.f a3 a4).bind fun t147 => ((bit_Leq.f t146 t147).bind fun t148 => (if t148 = true then ((bit_Mux.f a0 a1 a2).bind fun t149 => ((bit_Mux.f a3 a4 a5).bind fun t150 => ((bit_Leq.f t149 t150).bind fun t151 => (if t151 = true then ((netlablaw01_awake.f kj6).bind fun t152 => (some t152)) else (some false))))) else (some false))))) else (some false)) = some r := H
                have A33 := Aside0.mk A330
                clear A330
                by_cases c34 : t145 = true
                · subst c34
                  have H1 : ((bit_Eq.f a0 a1).bind fun t146 => ((bit_Eq.f a3 a4).bind fun t147 => ((bit_Leq.f t146 t147).bind fun t148 => (if t148 = true then ((bit_Mux.f a0 a1 a2).bind fun t149 => ((bit_Mux.f a3 a4 a5).bind fun t150 => ((bit_Leq.f t149 t150).bind fun t151 => (if t151 = true then ((netlablaw01_awake.f kj6).bind fun t152 => (some t152)) else (some false))))) else (some false))))) = some r := by rw [if_pos rfl] at H; exact H
                  clear H
                  have H := H1
                  clear H1
                  replace H := Option.bind_eq_some_iff.mp H
                  obtain ⟨t146, A350, H⟩ := H
                  replace H : ((bit_Eq.f a3 a4).bind fun t147 => ((bit_Leq.f t146 t147).bind fun t148 => (if t148 = true then ((bit_Mux.f a0 a1 a2).bind fun t149 => ((bit_Mux.f a3 a4 a5).bind fun t150 => ((bit_Leq.f t149 t150).bind fun t151 => (if t151 = true then ((netlablaw01_awake.f kj6).bind fun t152 => (some t152)) else (some false))))) else (some false)))) = some r := H
                  have A35 := Aside0.mk A350
                  clear A350
                  replace H := Option.bind_eq_some_iff.mp H
                  obtain ⟨t147, A360, H⟩ := H
                  replace H : ((bit_Leq.f t146 t147).bind fun t148 => (if t148 = true then ((bit_Mux.f a0 a1 a2).bind fun t149 => ((bit_Mux.f a3 a4 a5).bind fun t150 => ((bit_Leq.f t149 t150).bind fun t151 => (if t151 = true then ((netlablaw01_awake.f kj6).bind fun t152 => (some t152)) else (some false))))) else (some false))) = some r := H
                  have A36 := Aside0.mk A360
                  clear A360
                  replace H := Option.bind_eq_some_iff.mp H
                  obtain ⟨t148, A370, H⟩ := H
                  replace H : (if t148 = true then ((bit_Mux.f a0 a1 a2).bind fun t149 => ((bit_Mux.f a3 a4 a5).bind fun t150 => ((bit_Leq.f t149 t150).bind fun t151 => (if t151 = true then ((netlablaw01_awake.f kj6).bind fun t152 => (some t152)) else (some false))))) else (some false)) = some r := H
                  have A37 := Aside0.mk A370
                  clear A370
                  by_cases c38 : t148 = true
                  · subst c38
                    have H1 : ((bit_Mux.f a0 a1 a2).bind fun t149 => ((bit_Mux.f a3 a4 a5).bind fun t150 => ((bit_Leq.f t149 t150).bind fun t151 => (if t151 = true then ((netlablaw01_awake.f kj6).bind fun t152 => (some t152)) else (some false))))) = some r := by rw [if_pos rfl] at H; exact H
                    clear H
                    have H := H1
                    clear H1
                    replace H := Option.bind_eq_some_iff.mp H
                    obtain ⟨t149, A390, H⟩ := H
                    replace H : ((bit_Mux.f a3 a4 a5).bind fun t150 => ((bit_Leq.f t149 t150).bind fun t151 => (if t151 = true then ((netlablaw01_awake.f kj6).bind fun t152 => (some t152)) else (some false)))) = some r := H
                    have A39 := Aside0.mk A390
                    clear A390
                    replace H := Option.bind_eq_some_iff.mp H
                    obtain ⟨t150, A400, H⟩ := H
                    replace H : ((bit_Leq.f t149 t150).bind fun t151 => (if t151 = true then ((netlablaw01_awake.f kj6).bind fun t152 => (some t152)) else (some false))) = some r := H
                    have A40 := Aside0.mk A400
                    clear A400
                    replace H := Option.bind_eq_some_iff.mp H
                    obtain ⟨t151, A410, H⟩ := H
                    replace H : (if t151 = true then ((netlablaw01_awake.f kj6).bind fun t152 => (some t152)) else (some false)) = some r := H
                    have A41 := Aside0.mk A410
                    clear A410
                    by_cases c42 : t151 = true
                    · subst c42
                      have H1 : ((netlablaw01_awake.f kj6).bind fun t152 => (some t152)) = some r := by rw [if_pos rfl] at H; exact H
                      clear H
                      have H := H1
                      clear H1
                      replace H := Option.bind_eq_some_iff.mp H
                      obtain ⟨t152, A430, H⟩ := H
                      replace H : (some t152) = some r := H
                      have A43 := Aside0.mk A430
                      clear A430
                      obtain rfl := Option.some.inj H
                      go_wp2_with (first | ((with_reducible refine gate_callee (f := 13) rfl ?_); refine goesL_ (some 31) rfl rfl Tryd.func13 (by kernel_rfl) rfl #[.int .u8 a0] rfl (by (try simp only [List.map_toArray, List.map_cons, List.map_nil]); first | done | rfl | (simp only [List.length_drop, List.length_take]; rfl)) ?_; (with_reducible refine (bit_Not.calls a0 t131 _ (by repeat (first | exact HG.out | apply Glob.drewN | apply Glob.drew)) A15.out).mono ?_); rintro e w' ⟨rfl, ⟨nd, rfl⟩⟩; refine ⟨_, rfl, ?_⟩) | ((with_reducible refine gate_callee (f := 13) rfl ?_); refine goesL_ (some 33) rfl rfl Tryd.func13 (by kernel_rfl) rfl #[.int .u8 a3] rfl (by (try simp only [List.map_toArray, List.map_cons, List.map_nil]); first | done | rfl | (simp only [List.length_drop, List.length_take]; rfl)) ?_; (with_reducible refine (bit_Not.calls a3 t132 _ (by repeat (first | exact HG.out | apply Glob.drewN | apply Glob.drew)) A16.out).mono ?_); rintro e w' ⟨rfl, ⟨nd, rfl⟩⟩; refine ⟨_, rfl, ?_⟩) | ((with_reducible refine gate_callee (f := 11) rfl ?_); refine goesL_ (some 34) rfl rfl Tryd.func11 (by kernel_rfl) rfl #[.int .u8 t131, .int .u8 t132] rfl (by (try simp only [List.map_toArray, List.map_cons, List.map_nil]); first | done | rfl | (simp only [List.length_drop, List.length_take]; rfl)) ?_; (with_reducible refine (bit_Leq.calls t131 t132 true _ A17.out).mono ?_); rintro e w' ⟨rfl, ⟨nd, rfl⟩⟩; refine ⟨_, rfl, ?_⟩) | (go_at_call 14; (with_reducible refine (bit_Buf.calls a0 t134 _ (by repeat (first | exact HG.out | apply Glob.drewN | apply Glob.drew)) A19.out).mono ?_); rintro e w' ⟨rfl, ⟨nd, rfl⟩⟩) | (go_at_call 14; (with_reducible refine (bit_Buf.calls a3 t135 _ (by repeat (first | exact HG.out | apply Glob.drewN | apply Glob.drew)) A20.out).mono ?_); rintro e w' ⟨rfl, ⟨nd, rfl⟩⟩) | (go_at_call 11; (with_reducible refine (bit_Leq.calls t134 t135 true _ A21.out).mono ?_); rintro e w' ⟨rfl, ⟨nd, rfl⟩⟩) | (go_at_call 15; (with_reducible refine (bit_And.calls a0 a1 t137 _ (by repeat (first | exact HG.out | apply Glob.drewN | apply Glob.drew)) A23.out).mono ?_); rintro e w' ⟨rfl, ⟨nd, rfl⟩⟩) | (go_at_call 15; (with_reducible refine (bit_And.calls a3 a4 t138 _ (by repeat (first | exact HG.out | apply Glob.drewN | apply Glob.drew)) A24.out).mono ?_); rintro e w' ⟨rfl, ⟨nd, rfl⟩⟩) | (go_at_call 11; (with_reducible refine (bit_Leq.calls t137 t138 true _ A25.out).mono ?_); rintro e w' ⟨rfl, ⟨nd, rfl⟩⟩) | (go_at_call 16; (with_reducible refine (bit_Or.calls a0 a1 t140 _ (by repeat (first | exact HG.out | apply Glob.drewN | apply Glob.drew)) A27.out).mono ?_); rintro e w' ⟨rfl, ⟨nd, rfl⟩⟩) | (go_at_call 16; (with_reducible refine (bit_Or.calls a3 a4 t141 _ (by repeat (first | exact HG.out | apply Glob.drewN | apply Glob.drew)) A28.out).mono ?_); rintro e w' ⟨rfl, ⟨nd, rfl⟩⟩) | (go_at_call 11; (with_reducible refine (bit_Leq.calls t140 t141 true _ A29.out).mono ?_); rintro e w' ⟨rfl, ⟨nd, rfl⟩⟩) | (go_at_call 17; (with_reducible refine (bit_Xor.calls a0 a1 t143 _ (by repeat (first | exact HG.out | apply Glob.drewN | apply Glob.drew)) A31.out).mono ?_); rintro e w' ⟨rfl, ⟨nd, rfl⟩⟩) | (go_at_call 17; (with_reducible refine (bit_Xor.calls a3 a4 t144 _ (by repeat (first | exact HG.out | apply Glob.drewN | apply Glob.drew)) A32.out).mono ?_); rintro e w' ⟨rfl, ⟨nd, rfl⟩⟩) | (go_at_call 11; (with_reducible refine (bit_Leq.calls t143 t144 true _ A33.out).mono ?_); rintro e w' ⟨rfl, ⟨nd, rfl⟩⟩) | (go_at_call 18; (with_reducible refine (bit_Eq.calls a0 a1 t146 _ (by repeat (first | exact HG.out | apply Glob.drewN | apply Glob.drew)) A35.out).mono ?_); rintro e w' ⟨rfl, ⟨nd, rfl⟩⟩) | (go_at_call 18; (with_reducible refine (bit_Eq.calls a3 a4 t147 _ (by repeat (first | exact HG.out | apply Glob.drewN | apply Glob.drew)) A36.out).mono ?_); rintro e w' ⟨rfl, ⟨nd, rfl⟩⟩) | (go_at_call 11; (with_reducible refine (bit_Leq.calls t146 t147 true _ A37.out).mono ?_); rintro e w' ⟨rfl, ⟨nd, rfl⟩⟩) | (go_at_call 19; (with_reducible refine (bit_Mux.calls a0 a1 a2 t149 _ (by repeat (first | exact HG.out | apply Glob.drewN | apply Glob.drew)) A39.out).mono ?_); rintro e w' ⟨rfl, ⟨nd, rfl⟩⟩) | (go_at_call 19; (with_reducible refine (bit_Mux.calls a3 a4 a5 t150 _ (by repeat (first | exact HG.out | apply Glob.drewN | apply Glob.drew)) A40.out).mono ?_); rintro e w' ⟨rfl, ⟨nd, rfl⟩⟩) | (go_at_call 11; (with_reducible refine (bit_Leq.calls t149 t150 true _ A41.out).mono ?_); rintro e w' ⟨rfl, ⟨nd, rfl⟩⟩) | (go_at_call 12; (with_reducible refine (netlablaw01_awake.calls kj6  t152 _ (by repeat (first | exact HG.out | apply Glob.drewN | apply Glob.drew)) A43.out).mono ?_); rintro e w' ⟨rfl, ⟨nd, rfl⟩⟩))
                      go_ret
                      exact ⟨by first | rfl | (simp; done) | (simp [*]; done), by repeat (first | exact Drawn0.refl _ | apply Drawn0.step)⟩
                    · replace c42 := Bool.eq_false_iff.mpr c42
                      subst c42
                      have H1 : (some false) = some r := by rw [if_neg (show ¬ (false = true) by decide)] at H; exact H
                      clear H
                      have H := H1
                      clear H1
                      obtain rfl := Option.some.inj H
                      go_wp2_with (first | ((with_reducible refine gate_callee (f := 13) rfl ?_); refine goesL_ (some 31) rfl rfl Tryd.func13 (by kernel_rfl) rfl #[.int .u8 a0] rfl (by (try simp only [List.map_toArray, List.map_cons, List.map_nil]); first | done | rfl | (simp only [List.length_drop, List.length_take]; rfl)) ?_; (with_reducible refine (bit_Not.calls a0 t131 _ (by repeat (first | exact HG.out | apply Glob.drewN | apply Glob.drew)) A15.out).mono ?_); rintro e w' ⟨rfl, ⟨nd, rfl⟩⟩; refine ⟨_, rfl, ?_⟩) | ((with_reducible refine gate_callee (f := 13) rfl ?_); refine goesL_ (some 33) rfl rfl Tryd.func13 (by kernel_rfl) rfl #[.int .u8 a3] rfl (by (try simp only [List.map_toArray, List.map_cons, List.map_nil]); first | done | rfl | (simp only [List.length_drop, List.length_take]; rfl)) ?_; (with_reducible refine (bit_Not.calls a3 t132 _ (by repeat (first | exact HG.out | apply Glob.drewN | apply Glob.drew)) A16.out).mono ?_); rintro e w' ⟨rfl, ⟨nd, rfl⟩⟩; refine ⟨_, rfl, ?_⟩) | ((with_reducible refine gate_callee (f := 11) rfl ?_); refine goesL_ (some 34) rfl rfl Tryd.func11 (by kernel_rfl) rfl #[.int .u8 t131, .int .u8 t132] rfl (by (try simp only [List.map_toArray, List.map_cons, List.map_nil]); first | done | rfl | (simp only [List.length_drop, List.length_take]; rfl)) ?_; (with_reducible refine (bit_Leq.calls t131 t132 true _ A17.out).mono ?_); rintro e w' ⟨rfl, ⟨nd, rfl⟩⟩; refine ⟨_, rfl, ?_⟩) | (go_at_call 14; (with_reducible refine (bit_Buf.calls a0 t134 _ (by repeat (first | exact HG.out | apply Glob.drewN | apply Glob.drew)) A19.out).mono ?_); rintro e w' ⟨rfl, ⟨nd, rfl⟩⟩) | (go_at_call 14; (with_reducible refine (bit_Buf.calls a3 t135 _ (by repeat (first | exact HG.out | apply Glob.drewN | apply Glob.drew)) A20.out).mono ?_); rintro e w' ⟨rfl, ⟨nd, rfl⟩⟩) | (go_at_call 11; (with_reducible refine (bit_Leq.calls t134 t135 true _ A21.out).mono ?_); rintro e w' ⟨rfl, ⟨nd, rfl⟩⟩) | (go_at_call 15; (with_reducible refine (bit_And.calls a0 a1 t137 _ (by repeat (first | exact HG.out | apply Glob.drewN | apply Glob.drew)) A23.out).mono ?_); rintro e w' ⟨rfl, ⟨nd, rfl⟩⟩) | (go_at_call 15; (with_reducible refine (bit_And.calls a3 a4 t138 _ (by repeat (first | exact HG.out | apply Glob.drewN | apply Glob.drew)) A24.out).mono ?_); rintro e w' ⟨rfl, ⟨nd, rfl⟩⟩) | (go_at_call 11; (with_reducible refine (bit_Leq.calls t137 t138 true _ A25.out).mono ?_); rintro e w' ⟨rfl, ⟨nd, rfl⟩⟩) | (go_at_call 16; (with_reducible refine (bit_Or.calls a0 a1 t140 _ (by repeat (first | exact HG.out | apply Glob.drewN | apply Glob.drew)) A27.out).mono ?_); rintro e w' ⟨rfl, ⟨nd, rfl⟩⟩) | (go_at_call 16; (with_reducible refine (bit_Or.calls a3 a4 t141 _ (by repeat (first | exact HG.out | apply Glob.drewN | apply Glob.drew)) A28.out).mono ?_); rintro e w' ⟨rfl, ⟨nd, rfl⟩⟩) | (go_at_call 11; (with_reducible refine (bit_Leq.calls t140 t141 true _ A29.out).mono ?_); rintro e w' ⟨rfl, ⟨nd, rfl⟩⟩) | (go_at_call 17; (with_reducible refine (bit_Xor.calls a0 a1 t143 _ (by repeat (first | exact HG.out | apply Glob.drewN | apply Glob.drew)) A31.out).mono ?_); rintro e w' ⟨rfl, ⟨nd, rfl⟩⟩) | (go_at_call 17; (with_reducible refine (bit_Xor.calls a3 a4 t144 _ (by repeat (first | exact HG.out | apply Glob.drewN | apply Glob.drew)) A32.out).mono ?_); rintro e w' ⟨rfl, ⟨nd, rfl⟩⟩) | (go_at_call 11; (with_reducible refine (bit_Leq.calls t143 t144 true _ A33.out).mono ?_); rintro e w' ⟨rfl, ⟨nd, rfl⟩⟩) | (go_at_call 18; (with_reducible refine (bit_Eq.calls a0 a1 t146 _ (by repeat (first | exact HG.out | apply Glob.drewN | apply Glob.drew)) A35.out).mono ?_); rintro e w' ⟨rfl, ⟨nd, rfl⟩⟩) | (go_at_call 18; (with_reducible refine (bit_Eq.calls a3 a4 t147 _ (by repeat (first | exact HG.out | apply Glob.drewN | apply Glob.drew)) A36.out).mono ?_); rintro e w' ⟨rfl, ⟨nd, rfl⟩⟩) | (go_at_call 11; (with_reducible refine (bit_Leq.calls t146 t147 true _ A37.out).mono ?_); rintro e w' ⟨rfl, ⟨nd, rfl⟩⟩) | (go_at_call 19; (with_reducible refine (bit_Mux.calls a0 a1 a2 t149 _ (by repeat (first | exact HG.out | apply Glob.drewN | apply Glob.drew)) A39.out).mono ?_); rintro e w' ⟨rfl, ⟨nd, rfl⟩⟩) | (go_at_call 19; (with_reducible refine (bit_Mux.calls a3 a4 a5 t150 _ (by repeat (first | exact HG.out | apply Glob.drewN | apply Glob.drew)) A40.out).mono ?_); rintro e w' ⟨rfl, ⟨nd, rfl⟩⟩) | (go_at_call 11; (with_reducible refine (bit_Leq.calls t149 t150 false _ A41.out).mono ?_); rintro e w' ⟨rfl, ⟨nd, rfl⟩⟩))
                      go_ret
                      exact ⟨by first | rfl | (simp; done) | (simp [*]; done), by repeat (first | exact Drawn0.refl _ | apply Drawn0.step)⟩
                  · replace c38 := Bool.eq_false_iff.mpr c38
                    subst c38
                    have H1 : (some false) = some r := by rw [if_neg (show ¬ (false = true) by decide)] at H; exact H
                    clear H
                    have H := H1
                    clear H1
                    obtain rfl := Option.some.inj H
                    go_wp2_with (first | ((with_reducible refine gate_callee (f := 13) rfl ?_); refine goesL_ (some 31) rfl rfl Tryd.func13 (by kernel_rfl) rfl #[.int .u8 a0] rfl (by (try simp only [List.map_toArray, List.map_cons, List.map_nil]); first | done | rfl | (simp only [List.length_drop, List.length_take]; rfl)) ?_; (with_reducible refine (bit_Not.calls a0 t131 _ (by repeat (first | exact HG.out | apply Glob.drewN | apply Glob.drew)) A15.out).mono ?_); rintro e w' ⟨rfl, ⟨nd, rfl⟩⟩; refine ⟨_, rfl, ?_⟩) | ((with_reducible refine gate_callee (f := 13) rfl ?_); refine goesL_ (some 33) rfl rfl Tryd.func13 (by kernel_rfl) rfl #[.int .u8 a3] rfl (by (try simp only [List.map_toArray, List.map_cons, List.map_nil]); first | done | rfl | (simp only [List.length_drop, List.length_take]; rfl)) ?_; (with_reducible refine (bit_Not.calls a3 t132 _ (by repeat (first | exact HG.out | apply Glob.drewN | apply Glob.drew)) A16.out).mono ?_); rintro e w' ⟨rfl, ⟨nd, rfl⟩⟩; refine ⟨_, rfl, ?_⟩) | ((with_reducible refine gate_callee (f := 11) rfl ?_); refine goesL_ (some 34) rfl rfl Tryd.func11 (by kernel_rfl) rfl #[.int .u8 t131, .int .u8 t132] rfl (by (try simp only [List.map_toArray, List.map_cons, List.map_nil]); first | done | rfl | (simp only [List.length_drop, List.length_take]; rfl)) ?_; (with_reducible refine (bit_Leq.calls t131 t132 true _ A17.out).mono ?_); rintro e w' ⟨rfl, ⟨nd, rfl⟩⟩; refine ⟨_, rfl, ?_⟩) | (go_at_call 14; (with_reducible refine (bit_Buf.calls a0 t134 _ (by repeat (first | exact HG.out | apply Glob.drewN | apply Glob.drew)) A19.out).mono ?_); rintro e w' ⟨rfl, ⟨nd, rfl⟩⟩) | (go_at_call 14; (with_reducible refine (bit_Buf.calls a3 t135 _ (by repeat (first | exact HG.out | apply Glob.drewN | apply Glob.drew)) A20.out).mono ?_); rintro e w' ⟨rfl, ⟨nd, rfl⟩⟩) | (go_at_call 11; (with_reducible refine (bit_Leq.calls t134 t135 true _ A21.out).mono ?_); rintro e w' ⟨rfl, ⟨nd, rfl⟩⟩) | (go_at_call 15; (with_reducible refine (bit_And.calls a0 a1 t137 _ (by repeat (first | exact HG.out | apply Glob.drewN | apply Glob.drew)) A23.out).mono ?_); rintro e w' ⟨rfl, ⟨nd, rfl⟩⟩) | (go_at_call 15; (with_reducible refine (bit_And.calls a3 a4 t138 _ (by repeat (first | exact HG.out | apply Glob.drewN | apply Glob.drew)) A24.out).mono ?_); rintro e w' ⟨rfl, ⟨nd, rfl⟩⟩) | (go_at_call 11; (with_reducible refine (bit_Leq.calls t137 t138 true _ A25.out).mono ?_); rintro e w' ⟨rfl, ⟨nd, rfl⟩⟩) | (go_at_call 16; (with_reducible refine (bit_Or.calls a0 a1 t140 _ (by repeat (first | exact HG.out | apply Glob.drewN | apply Glob.drew)) A27.out).mono ?_); rintro e w' ⟨rfl, ⟨nd, rfl⟩⟩) | (go_at_call 16; (with_reducible refine (bit_Or.calls a3 a4 t141 _ (by repeat (first | exact HG.out | apply Glob.drewN | apply Glob.drew)) A28.out).mono ?_); rintro e w' ⟨rfl, ⟨nd, rfl⟩⟩) | (go_at_call 11; (with_reducible refine (bit_Leq.calls t140 t141 true _ A29.out).mono ?_); rintro e w' ⟨rfl, ⟨nd, rfl⟩⟩) | (go_at_call 17; (with_reducible refine (bit_Xor.calls a0 a1 t143 _ (by repeat (first | exact HG.out | apply Glob.drewN | apply Glob.drew)) A31.out).mono ?_); rintro e w' ⟨rfl, ⟨nd, rfl⟩⟩) | (go_at_call 17; (with_reducible refine (bit_Xor.calls a3 a4 t144 _ (by repeat (first | exact HG.out | apply Glob.drewN | apply Glob.drew)) A32.out).mono ?_); rintro e w' ⟨rfl, ⟨nd, rfl⟩⟩) | (go_at_call 11; (with_reducible refine (bit_Leq.calls t143 t144 true _ A33.out).mono ?_); rintro e w' ⟨rfl, ⟨nd, rfl⟩⟩) | (go_at_call 18; (with_reducible refine (bit_Eq.calls a0 a1 t146 _ (by repeat (first | exact HG.out | apply Glob.drewN | apply Glob.drew)) A35.out).mono ?_); rintro e w' ⟨rfl, ⟨nd, rfl⟩⟩) | (go_at_call 18; (with_reducible refine (bit_Eq.calls a3 a4 t147 _ (by repeat (first | exact HG.out | apply Glob.drewN | apply Glob.drew)) A36.out).mono ?_); rintro e w' ⟨rfl, ⟨nd, rfl⟩⟩) | (go_at_call 11; (with_reducible refine (bit_Leq.calls t146 t147 false _ A37.out).mono ?_); rintro e w' ⟨rfl, ⟨nd, rfl⟩⟩))
                    go_ret
                    exact ⟨by first | rfl | (simp; done) | (simp [*]; done), by repeat (first | exact Drawn0.refl _ | apply Drawn0.step)⟩
                · replace c34 := Bool.eq_false_iff.mpr c34
                  subst c34
                  have H1 : (some false) = some r := by rw [if_neg (show ¬ (false = true) by decide)] at H; exact H
                  clear H
                  have H := H1
                  clear H1
                  obtain rfl := Option.some.inj H
                  go_wp2_with (first | ((with_reducible refine gate_callee (f := 13) rfl ?_); refine goesL_ (some 31) rfl rfl Tryd.func13 (by kernel_rfl) rfl #[.int .u8 a0] rfl (by (try simp only [List.map_toArray, List.map_cons, List.map_nil]); first | done | rfl | (simp only [List.length_drop, List.length_take]; rfl)) ?_; (with_reducible refine (bit_Not.calls a0 t131 _ (by repeat (first | exact HG.out | apply Glob.drewN | apply Glob.drew)) A15.out).mono ?_); rintro e w' ⟨rfl, ⟨nd, rfl⟩⟩; refine ⟨_, rfl, ?_⟩) | ((with_reducible refine gate_callee (f := 13) rfl ?_); refine goesL_ (some 33) rfl rfl Tryd.func13 (by kernel_rfl) rfl #[.int .u8 a3] rfl (by (try simp only [List.map_toArray, List.map_cons, List.map_nil]); first | done | rfl | (simp only [List.length_drop, List.length_take]; rfl)) ?_; (with_reducible refine (bit_Not.calls a3 t132 _ (by repeat (first | exact HG.out | apply Glob.drewN | apply Glob.drew)) A16.out).mono ?_); rintro e w' ⟨rfl, ⟨nd, rfl⟩⟩; refine ⟨_, rfl, ?_⟩) | ((with_reducible refine gate_callee (f := 11) rfl ?_); refine goesL_ (some 34) rfl rfl Tryd.func11 (by kernel_rfl) rfl #[.int .u8 t131, .int .u8 t132] rfl (by (try simp only [List.map_toArray, List.map_cons, List.map_nil]); first | done | rfl | (simp only [List.length_drop, List.length_take]; rfl)) ?_; (with_reducible refine (bit_Leq.calls t131 t132 true _ A17.out).mono ?_); rintro e w' ⟨rfl, ⟨nd, rfl⟩⟩; refine ⟨_, rfl, ?_⟩) | (go_at_call 14; (with_reducible refine (bit_Buf.calls a0 t134 _ (by repeat (first | exact HG.out | apply Glob.drewN | apply Glob.drew)) A19.out).mono ?_); rintro e w' ⟨rfl, ⟨nd, rfl⟩⟩) | (go_at_call 14; (with_reducible refine (bit_Buf.calls a3 t135 _ (by repeat (first | exact HG.out | apply Glob.drewN | apply Glob.drew)) A20.out).mono ?_); rintro e w' ⟨rfl, ⟨nd, rfl⟩⟩) | (go_at_call 11; (with_reducible refine (bit_Leq.calls t134 t135 true _ A21.out).mono ?_); rintro e w' ⟨rfl, ⟨nd, rfl⟩⟩) | (go_at_call 15; (with_reducible refine (bit_And.calls a0 a1 t137 _ (by repeat (first | exact HG.out | apply Glob.drewN | apply Glob.drew)) A23.out).mono ?_); rintro e w' ⟨rfl, ⟨nd, rfl⟩⟩) | (go_at_call 15; (with_reducible refine (bit_And.calls a3 a4 t138 _ (by repeat (first | exact HG.out | apply Glob.drewN | apply Glob.drew)) A24.out).mono ?_); rintro e w' ⟨rfl, ⟨nd, rfl⟩⟩) | (go_at_call 11; (with_reducible refine (bit_Leq.calls t137 t138 true _ A25.out).mono ?_); rintro e w' ⟨rfl, ⟨nd, rfl⟩⟩) | (go_at_call 16; (with_reducible refine (bit_Or.calls a0 a1 t140 _ (by repeat (first | exact HG.out | apply Glob.drewN | apply Glob.drew)) A27.out).mono ?_); rintro e w' ⟨rfl, ⟨nd, rfl⟩⟩) | (go_at_call 16; (with_reducible refine (bit_Or.calls a3 a4 t141 _ (by repeat (first | exact HG.out | apply Glob.drewN | apply Glob.drew)) A28.out).mono ?_); rintro e w' ⟨rfl, ⟨nd, rfl⟩⟩) | (go_at_call 11; (with_reducible refine (bit_Leq.calls t140 t141 true _ A29.out).mono ?_); rintro e w' ⟨rfl, ⟨nd, rfl⟩⟩) | (go_at_call 17; (with_reducible refine (bit_Xor.calls a0 a1 t143 _ (by repeat (first | exact HG.out | apply Glob.drewN | apply Glob.drew)) A31.out).mono ?_); rintro e w' ⟨rfl, ⟨nd, rfl⟩⟩) | (go_at_call 17; (with_reducible refine (bit_Xor.calls a3 a4 t144 _ (by repeat (first | exact HG.out | apply Glob.drewN | apply Glob.drew)) A32.out).mono ?_); rintro e w' ⟨rfl, ⟨nd, rfl⟩⟩) | (go_at_call 11; (with_reducible refine (bit_Leq.calls t143 t144 false _ A33.out).mono ?_); rintro e w' ⟨rfl, ⟨nd, rfl⟩⟩))
                  go_ret
                  exact ⟨by first | rfl | (simp; done) | (simp [*]; done), by repeat (first | exact Drawn0.refl _ | apply Drawn0.step)⟩
              · replace c30 := Bool.eq_false_iff.mpr c30
                subst c30
                have H1 : (some false) = some r := by rw [if_neg (show ¬ (false = true) by decide)] at H; exact H
                clear H
                have H := H1
                clear H1
                obtain rfl := Option.some.inj H
                go_wp2_with (first | ((with_reducible refine gate_callee (f := 13) rfl ?_); refine goesL_ (some 31) rfl rfl Tryd.func13 (by kernel_rfl) rfl #[.int .u8 a0] rfl (by (try simp only [List.map_toArray, List.map_cons, List.map_nil]); first | done | rfl | (simp only [List.length_drop, List.length_take]; rfl)) ?_; (with_reducible refine (bit_Not.calls a0 t131 _ (by repeat (first | exact HG.out | apply Glob.drewN | apply Glob.drew)) A15.out).mono ?_); rintro e w' ⟨rfl, ⟨nd, rfl⟩⟩; refine ⟨_, rfl, ?_⟩) | ((with_reducible refine gate_callee (f := 13) rfl ?_); refine goesL_ (some 33) rfl rfl Tryd.func13 (by kernel_rfl) rfl #[.int .u8 a3] rfl (by (try simp only [List.map_toArray, List.map_cons, List.map_nil]); first | done | rfl | (simp only [List.length_drop, List.length_take]; rfl)) ?_; (with_reducible refine (bit_Not.calls a3 t132 _ (by repeat (first | exact HG.out | apply Glob.drewN | apply Glob.drew)) A16.out).mono ?_); rintro e w' ⟨rfl, ⟨nd, rfl⟩⟩; refine ⟨_, rfl, ?_⟩) | ((with_reducible refine gate_callee (f := 11) rfl ?_); refine goesL_ (some 34) rfl rfl Tryd.func11 (by kernel_rfl) rfl #[.int .u8 t131, .int .u8 t132] rfl (by (try simp only [List.map_toArray, List.map_cons, List.map_nil]); first | done | rfl | (simp only [List.length_drop, List.length_take]; rfl)) ?_; (with_reducible refine (bit_Leq.calls t131 t132 true _ A17.out).mono ?_); rintro e w' ⟨rfl, ⟨nd, rfl⟩⟩; refine ⟨_, rfl, ?_⟩) | (go_at_call 14; (with_reducible refine (bit_Buf.calls a0 t134 _ (by repeat (first | exact HG.out | apply Glob.drewN | apply Glob.drew)) A19.out).mono ?_); rintro e w' ⟨rfl, ⟨nd, rfl⟩⟩) | (go_at_call 14; (with_reducible refine (bit_Buf.calls a3 t135 _ (by repeat (first | exact HG.out | apply Glob.drewN | apply Glob.drew)) A20.out).mono ?_); rintro e w' ⟨rfl, ⟨nd, rfl⟩⟩) | (go_at_call 11; (with_reducible refine (bit_Leq.calls t134 t135 true _ A21.out).mono ?_); rintro e w' ⟨rfl, ⟨nd, rfl⟩⟩) | (go_at_call 15; (with_reducible refine (bit_And.calls a0 a1 t137 _ (by repeat (first | exact HG.out | apply Glob.drewN | apply Glob.drew)) A23.out).mono ?_); rintro e w' ⟨rfl, ⟨nd, rfl⟩⟩) | (go_at_call 15; (with_reducible refine (bit_And.calls a3 a4 t138 _ (by repeat (first | exact HG.out | apply Glob.drewN | apply Glob.drew)) A24.out).mono ?_); rintro e w' ⟨rfl, ⟨nd, rfl⟩⟩) | (go_at_call 11; (with_reducible refine (bit_Leq.calls t137 t138 true _ A25.out).mono ?_); rintro e w' ⟨rfl, ⟨nd, rfl⟩⟩) | (go_at_call 16; (with_reducible refine (bit_Or.calls a0 a1 t140 _ (by repeat (first | exact HG.out | apply Glob.drewN | apply Glob.drew)) A27.out).mono ?_); rintro e w' ⟨rfl, ⟨nd, rfl⟩⟩) | (go_at_call 16; (with_reducible refine (bit_Or.calls a3 a4 t141 _ (by repeat (first | exact HG.out | apply Glob.drewN | apply Glob.drew)) A28.out).mono ?_); rintro e w' ⟨rfl, ⟨nd, rfl⟩⟩) | (go_at_call 11; (with_reducible refine (bit_Leq.calls t140 t141 false _ A29.out).mono ?_); rintro e w' ⟨rfl, ⟨nd, rfl⟩⟩))
                go_ret
                exact ⟨by first | rfl | (simp; done) | (simp [*]; done), by repeat (first | exact Drawn0.refl _ | apply Drawn0.step)⟩
            · replace c26 := Bool.eq_false_iff.mpr c26
              subst c26
              have H1 : (some false) = some r := by rw [if_neg (show ¬ (false = true) by decide)] at H; exact H
              clear H
              have H := H1
              clear H1
              obtain rfl := Option.some.inj H
              go_wp2_with (first | ((with_reducible refine gate_callee (f := 13) rfl ?_); refine goesL_ (some 31) rfl rfl Tryd.func13 (by kernel_rfl) rfl #[.int .u8 a0] rfl (by (try simp only [List.map_toArray, List.map_cons, List.map_nil]); first | done | rfl | (simp only [List.length_drop, List.length_take]; rfl)) ?_; (with_reducible refine (bit_Not.calls a0 t131 _ (by repeat (first | exact HG.out | apply Glob.drewN | apply Glob.drew)) A15.out).mono ?_); rintro e w' ⟨rfl, ⟨nd, rfl⟩⟩; refine ⟨_, rfl, ?_⟩) | ((with_reducible refine gate_callee (f := 13) rfl ?_); refine goesL_ (some 33) rfl rfl Tryd.func13 (by kernel_rfl) rfl #[.int .u8 a3] rfl (by (try simp only [List.map_toArray, List.map_cons, List.map_nil]); first | done | rfl | (simp only [List.length_drop, List.length_take]; rfl)) ?_; (with_reducible refine (bit_Not.calls a3 t132 _ (by repeat (first | exact HG.out | apply Glob.drewN | apply Glob.drew)) A16.out).mono ?_); rintro e w' ⟨rfl, ⟨nd, rfl⟩⟩; refine ⟨_, rfl, ?_⟩) | ((with_reducible refine gate_callee (f := 11) rfl ?_); refine goesL_ (some 34) rfl rfl Tryd.func11 (by kernel_rfl) rfl #[.int .u8 t131, .int .u8 t132] rfl (by (try simp only [List.map_toArray, List.map_cons, List.map_nil]); first | done | rfl | (simp only [List.length_drop, List.length_take]; rfl)) ?_; (with_reducible refine (bit_Leq.calls t131 t132 true _ A17.out).mono ?_); rintro e w' ⟨rfl, ⟨nd, rfl⟩⟩; refine ⟨_, rfl, ?_⟩) | (go_at_call 14; (with_reducible refine (bit_Buf.calls a0 t134 _ (by repeat (first | exact HG.out | apply Glob.drewN | apply Glob.drew)) A19.out).mono ?_); rintro e w' ⟨rfl, ⟨nd, rfl⟩⟩) | (go_at_call 14; (with_reducible refine (bit_Buf.calls a3 t135 _ (by repeat (first | exact HG.out | apply Glob.drewN | apply Glob.drew)) A20.out).mono ?_); rintro e w' ⟨rfl, ⟨nd, rfl⟩⟩) | (go_at_call 11; (with_reducible refine (bit_Leq.calls t134 t135 true _ A21.out).mono ?_); rintro e w' ⟨rfl, ⟨nd, rfl⟩⟩) | (go_at_call 15; (with_reducible refine (bit_And.calls a0 a1 t137 _ (by repeat (first | exact HG.out | apply Glob.drewN | apply Glob.drew)) A23.out).mono ?_); rintro e w' ⟨rfl, ⟨nd, rfl⟩⟩) | (go_at_call 15; (with_reducible refine (bit_And.calls a3 a4 t138 _ (by repeat (first | exact HG.out | apply Glob.drewN | apply Glob.drew)) A24.out).mono ?_); rintro e w' ⟨rfl, ⟨nd, rfl⟩⟩) | (go_at_call 11; (with_reducible refine (bit_Leq.calls t137 t138 false _ A25.out).mono ?_); rintro e w' ⟨rfl, ⟨nd, rfl⟩⟩))
              go_ret
              exact ⟨by first | rfl | (simp; done) | (simp [*]; done), by repeat (first | exact Drawn0.refl _ | apply Drawn0.step)⟩
          · replace c22 := Bool.eq_false_iff.mpr c22
            subst c22
            have H1 : (some false) = some r := by rw [if_neg (show ¬ (false = true) by decide)] at H; exact H
            clear H
            have H := H1
            clear H1
            obtain rfl := Option.some.inj H
            go_wp2_with (first | ((with_reducible refine gate_callee (f := 13) rfl ?_); refine goesL_ (some 31) rfl rfl Tryd.func13 (by kernel_rfl) rfl #[.int .u8 a0] rfl (by (try simp only [List.map_toArray, List.map_cons, List.map_nil]); first | done | rfl | (simp only [List.length_drop, List.length_take]; rfl)) ?_; (with_reducible refine (bit_Not.calls a0 t131 _ (by repeat (first | exact HG.out | apply Glob.drewN | apply Glob.drew)) A15.out).mono ?_); rintro e w' ⟨rfl, ⟨nd, rfl⟩⟩; refine ⟨_, rfl, ?_⟩) | ((with_reducible refine gate_callee (f := 13) rfl ?_); refine goesL_ (some 33) rfl rfl Tryd.func13 (by kernel_rfl) rfl #[.int .u8 a3] rfl (by (try simp only [List.map_toArray, List.map_cons, List.map_nil]); first | done | rfl | (simp only [List.length_drop, List.length_take]; rfl)) ?_; (with_reducible refine (bit_Not.calls a3 t132 _ (by repeat (first | exact HG.out | apply Glob.drewN | apply Glob.drew)) A16.out).mono ?_); rintro e w' ⟨rfl, ⟨nd, rfl⟩⟩; refine ⟨_, rfl, ?_⟩) | ((with_reducible refine gate_callee (f := 11) rfl ?_); refine goesL_ (some 34) rfl rfl Tryd.func11 (by kernel_rfl) rfl #[.int .u8 t131, .int .u8 t132] rfl (by (try simp only [List.map_toArray, List.map_cons, List.map_nil]); first | done | rfl | (simp only [List.length_drop, List.length_take]; rfl)) ?_; (with_reducible refine (bit_Leq.calls t131 t132 true _ A17.out).mono ?_); rintro e w' ⟨rfl, ⟨nd, rfl⟩⟩; refine ⟨_, rfl, ?_⟩) | (go_at_call 14; (with_reducible refine (bit_Buf.calls a0 t134 _ (by repeat (first | exact HG.out | apply Glob.drewN | apply Glob.drew)) A19.out).mono ?_); rintro e w' ⟨rfl, ⟨nd, rfl⟩⟩) | (go_at_call 14; (with_reducible refine (bit_Buf.calls a3 t135 _ (by repeat (first | exact HG.out | apply Glob.drewN | apply Glob.drew)) A20.out).mono ?_); rintro e w' ⟨rfl, ⟨nd, rfl⟩⟩) | (go_at_call 11; (with_reducible refine (bit_Leq.calls t134 t135 false _ A21.out).mono ?_); rintro e w' ⟨rfl, ⟨nd, rfl⟩⟩))
            go_ret
            exact ⟨by first | rfl | (simp; done) | (simp [*]; done), by repeat (first | exact Drawn0.refl _ | apply Drawn0.step)⟩
        · replace c18 := Bool.eq_false_iff.mpr c18
          subst c18
          have H1 : (some false) = some r := by rw [if_neg (show ¬ (false = true) by decide)] at H; exact H
          clear H
          have H := H1
          clear H1
          obtain rfl := Option.some.inj H
          go_wp2_with (first | ((with_reducible refine gate_callee (f := 13) rfl ?_); refine goesL_ (some 31) rfl rfl Tryd.func13 (by kernel_rfl) rfl #[.int .u8 a0] rfl (by (try simp only [List.map_toArray, List.map_cons, List.map_nil]); first | done | rfl | (simp only [List.length_drop, List.length_take]; rfl)) ?_; (with_reducible refine (bit_Not.calls a0 t131 _ (by repeat (first | exact HG.out | apply Glob.drewN | apply Glob.drew)) A15.out).mono ?_); rintro e w' ⟨rfl, ⟨nd, rfl⟩⟩; refine ⟨_, rfl, ?_⟩) | ((with_reducible refine gate_callee (f := 13) rfl ?_); refine goesL_ (some 33) rfl rfl Tryd.func13 (by kernel_rfl) rfl #[.int .u8 a3] rfl (by (try simp only [List.map_toArray, List.map_cons, List.map_nil]); first | done | rfl | (simp only [List.length_drop, List.length_take]; rfl)) ?_; (with_reducible refine (bit_Not.calls a3 t132 _ (by repeat (first | exact HG.out | apply Glob.drewN | apply Glob.drew)) A16.out).mono ?_); rintro e w' ⟨rfl, ⟨nd, rfl⟩⟩; refine ⟨_, rfl, ?_⟩) | ((with_reducible refine gate_callee (f := 11) rfl ?_); refine goesL_ (some 34) rfl rfl Tryd.func11 (by kernel_rfl) rfl #[.int .u8 t131, .int .u8 t132] rfl (by (try simp only [List.map_toArray, List.map_cons, List.map_nil]); first | done | rfl | (simp only [List.length_drop, List.length_take]; rfl)) ?_; (with_reducible refine (bit_Leq.calls t131 t132 false _ A17.out).mono ?_); rintro e w' ⟨rfl, ⟨nd, rfl⟩⟩; refine ⟨_, rfl, ?_⟩))
          go_ret
          exact ⟨by first | rfl | (simp; done) | (simp [*]; done), by repeat (first | exact Drawn0.refl _ | apply Drawn0.step)⟩

end Go.Proofs.YteioheookffjiaaDoor.F
