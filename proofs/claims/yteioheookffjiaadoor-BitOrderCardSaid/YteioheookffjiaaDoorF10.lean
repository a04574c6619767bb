-- Written by a program of this session (wip/tools/drive.py) over the kit's print.py.
import Derived.Test.YteioheookffjiaaDoorF0
import Derived.Test.YteioheookffjiaaDoorF2
import Derived.Test.YteioheookffjiaaDoorF9
namespace Go.Proofs.YteioheookffjiaaDoor.F
open Go.RowKit Go.Proofs.YteioheookffjiaaDoorW.PrintWords Go.Proofs.YteioheookffjiaaDoorW.PrintLast Go.Proofs.YteioheookffjiaaDoorW.PrintMore
attribute [local go_sem] max2_int min2_int max_two min_two max_three min_three max_four min_four   -- for this text's walks alone
set_option linter.unusedVariables false
set_option linter.unusedSimpArgs false

/-! ### netlablaw01_BitParseMatches: function 9 -/
def netlablaw01_BitParseMatches.f (k : Nat) (a0 : Int) (a1 : Bool) : Option (Bool) := (bit_Parse.f k a0).bind fun bt254 => ((netlabref01_Parse.f k a0).bind fun bt256 => (if bt254.1 = bt256.1 then (if (bt254.2 == bt256.2) = true then ((bit_FromBool.f a1).bind fun t258 => ((netlabref01_FromBool.f a1).bind fun t259 => (if t258 = t259 then ((netlablaw01_awake.f k).bind fun t260 => (some t260)) else (some false)))) else (some false)) else (some false)))
theorem netlablaw01_BitParseMatches.mono : ∀ a0 a1 k, LeO (netlablaw01_BitParseMatches.f k a0 a1) (netlablaw01_BitParseMatches.f (k + 1) a0 a1) := by
  intro a0 a1 k
  unfold netlablaw01_BitParseMatches.f
  repeat' first
      | (with_reducible exact bit_Parse.mono _ _)
      | (with_reducible exact netlablaw01_awake.mono _)
      | (with_reducible exact netlabref01_Parse.mono _ _)
      | (with_reducible exact LeO.refl _)
      | (with_reducible exact LeO.none _)
      | (with_reducible refine LeO.ite ?_ ?_)
      | (with_reducible refine LeO.bind ?_ (fun _ => ?_))
      | exact bit_Parse.mono _ _
      | exact netlablaw01_awake.mono _
      | exact netlabref01_Parse.mono _ _
      | exact LeO.none _
      | refine LeO.ite ?_ ?_
      | refine LeO.bind ?_ (fun _ => ?_)
set_option maxHeartbeats 8000000 in
set_option maxRecDepth 100000 in
theorem netlablaw01_BitParseMatches.calls (k : Nat) (a0 : Int) (a1 : Bool) (r : Bool) (w : World) (hG : Glob w) (h : netlablaw01_BitParseMatches.f k a0 a1 = some r) :
    Calls Tryd.prog 9 #[.int .u8 a0, .bool a1] w fun e w' => e = .returned (.bool r) ∧ Drawn0 w w' := by
  have HG := Aside0.mk hG
  clear hG
  have H : ((bit_Parse.f k a0).bind fun bt254 => ((netlabref01_Parse.f k a0).bind fun bt256 => (if bt254.1 = bt256.1 then (if (bt254.2 == bt256.2) = true then ((bit_FromBool.f a1).bind fun t258 => ((netlabref01_FromBool.f a1).bind fun t259 => (if t258 = t259 then ((netlablaw01_awake.f k).bind fun t260 => (some t260)) else (some false)))) else (some false)) else (some false)))) = some r := h
  clear h
  replace H := Option.bind_eq_some_iff.mp H
  obtain ⟨⟨t254, t255⟩, A30, H⟩ := H
  replace H : ((netlabref01_Parse.f k a0).bind fun bt256 => (if t254 = bt256.1 then (if (t255 == bt256.2) = true then ((bit_FromBool.f a1).bind fun t258 => ((netlabref01_FromBool.f a1).bind fun t259 => (if t258 = t259 then ((netlablaw01_awake.f k).bind fun t260 => (some t260)) else (some false)))) else (some false)) else (some false))) = some r := H
  have A3 := Aside0.mk A30
  clear A30
  replace H := Option.bind_eq_some_iff.mp H
  obtain ⟨⟨t256, t257⟩, A40, H⟩ := H
  replace H : (if t254 = t256 then (if (t255 == t257) = true then ((bit_FromBool.f a1).bind fun t258 => ((netlabref01_FromBool.f a1).bind fun t259 => (if t258 = t259 then ((netlablaw01_awake.f k).bind fun t260 => (some t260)) else (some false)))) else (some false)) else (some false)) = some r := H
  have A4 := Aside0.mk A40
  clear A40
  by_cases c5 : t254 = t256
  · rw [if_pos c5] at H
    have c5b0 : (t254 == t256) = true := beq_iff_eq.mpr c5
    have c5b1 : (t254 != t256) = false := bne_eq_false_iff_eq.mpr c5
    clear c5
    by_cases c6 : (t255 == t257) = true
    · rw [if_pos c6] at H
      have c6b0 : (t255 == t257) = true := c6
      (try (have c6b1 : decide (t255 = t257) = true := by simpa using c6))
      (try (have c6b2 : (t255 == t257) = true := by simpa using c6))
      clear c6
      replace H := Option.bind_eq_some_iff.mp H
      obtain ⟨t258, A70, H⟩ := H
      replace H : ((netlabref01_FromBool.f a1).bind fun t259 => (if t258 = t259 then ((netlablaw01_awake.f k).bind fun t260 => (some t260)) else (some false))) = some r := H
      have A7 := Aside0.mk A70
      clear A70
      replace H := Option.bind_eq_some_iff.mp H
      obtain ⟨t259, A80, H⟩ := H
      replace H : (if t258 = t259 then ((netlablaw01_awake.f k).bind fun t260 => (some t260)) else (some false)) = some r := H
      have A8 := Aside0.mk A80
      clear A80
      by_cases c9 : t258 = t259
      · rw [if_pos c9] at H
        have c9b0 : (t258 == t259) = true := beq_iff_eq.mpr c9
        have c9b1 : (t258 != t259) = false := bne_eq_false_iff_eq.mpr c9
        clear c9
        replace H := Option.bind_eq_some_iff.mp H
        obtain ⟨t260, A100, H⟩ := H
        replace H : (some t260) = some r := H
        have A10 := Aside0.mk A100
        clear A100
        obtain rfl := Option.some.inj H
        go_enter Tryd.func9, Tryd.ntmps9
        go_wp2_with (first | ((with_reducible refine gate_callee (f := 35) rfl ?_); refine goesL_ (some 11) rfl rfl Tryd.func35 (by kernel_rfl) rfl #[.int .u8 a0] rfl (by (try simp only [List.map_toArray, List.map_cons, List.map_nil]); first | done | rfl | (simp only [List.length_drop, List.length_take]; rfl)) ?_; (with_reducible refine (bit_Parse.calls k a0 t254 t255 _ A3.out).mono ?_); rintro e w' ⟨rfl, ⟨nd, rfl⟩⟩; refine ⟨_, rfl, ?_⟩) | ((with_reducible refine gate_callee (f := 36) rfl ?_); refine goesL_ (some 16) rfl rfl Tryd.func36 (by kernel_rfl) rfl #[.int .u8 a0] rfl (by (try simp only [List.map_toArray, List.map_cons, List.map_nil]); first | done | rfl | (simp only [List.length_drop, List.length_take]; rfl)) ?_; (with_reducible refine (netlabref01_Parse.calls k a0 t256 t257 _ A4.out).mono ?_); rintro e w' ⟨rfl, ⟨nd, rfl⟩⟩; refine ⟨_, rfl, ?_⟩) | (go_at_call 37; (with_reducible refine (bit_FromBool.calls a1 t258 _ A7.out).mono ?_); rintro e w' ⟨rfl, ⟨nd, rfl⟩⟩) | (go_at_call 38; (with_reducible refine (netlabref01_FromBool.calls a1 t259 _ A8.out).mono ?_); rintro e w' ⟨rfl, ⟨nd, rfl⟩⟩) | (go_at_call 12; (with_reducible refine (netlablaw01_awake.calls k  t260 _ (by repeat (first | exact HG.out | apply Glob.drewN | apply Glob.drew)) A10.out).mono ?_); rintro e w' ⟨rfl, ⟨nd, rfl⟩⟩))
        go_ret
        exact ⟨by first | rfl | (simp; done) | (simp [*]; done), by repeat (first | exact Drawn0.refl _ | apply Drawn0.step)⟩
      · rw [if_neg c9] at H
        have c9b0 : (t258 == t259) = false := beq_eq_false_iff_ne.mpr c9
        have c9b1 : (t258 != t259) = true := bne_iff_ne.mpr c9
        obtain rfl := Option.some.inj H
        go_enter Tryd.func9, Tryd.ntmps9
        go_wp2_with (first | ((with_reducible refine gate_callee (f := 35) rfl ?_); refine goesL_ (some 11) rfl rfl Tryd.func35 (by kernel_rfl) rfl #[.int .u8 a0] rfl (by (try simp only [List.map_toArray, List.map_cons, List.map_nil]); first | done | rfl | (simp only [List.length_drop, List.length_take]; rfl)) ?_; (with_reducible refine (bit_Parse.calls k a0 t254 t255 _ A3.out).mono ?_); rintro e w' ⟨rfl, ⟨nd, rfl⟩⟩; refine ⟨_, rfl, ?_⟩) | ((with_reducible refine gate_callee (f := 36) rfl ?_); refine goesL_ (some 16) rfl rfl Tryd.func36 (by kernel_rfl) rfl #[.int .u8 a0] rfl (by (try simp only [List.map_toArray, List.map_cons, List.map_nil]); first | done | rfl | (simp only [List.length_drop, List.length_take]; rfl)) ?_; (with_reducible refine (netlabref01_Parse.calls k a0 t256 t257 _ A4.out).mono ?_); rintro e w' ⟨rfl, ⟨nd, rfl⟩⟩; refine ⟨_, rfl, ?_⟩) | (go_at_call 37; (with_reducible refine (bit_FromBool.calls a1 t258 _ A7.out).mono ?_); rintro e w' ⟨rfl, ⟨nd, rfl⟩⟩) | (go_at_call 38; (with_reducible refine (netlabref01_FromBool.calls a1 t259 _ A8.out).mono ?_); rintro e w' ⟨rfl, ⟨nd, rfl⟩⟩))
        go_ret
        exact ⟨by first | rfl | (simp; done) | (simp [*]; done), by repeat (first | exact Drawn0.refl _ | apply Drawn0.step)⟩
    · rw [if_neg c6] at H
      have c6b0 : (t255 == t257) = false := by simpa using c6
      (try (have c6b1 : decide (t255 = t257) = false := by simpa using c6))
      (try (have c6b2 : (t255 == t257) = false := by simpa using c6))
      (try (have c6b3 : ¬ (t255 = t257) := by simpa using c6))
      clear c6
      obtain rfl := Option.some.inj H
      go_enter Tryd.func9, Tryd.ntmps9
      go_wp2_with (first | ((with_reducible refine gate_callee (f := 35) rfl ?_); refine goesL_ (some 11) rfl rfl Tryd.func35 (by kernel_rfl) rfl #[.int .u8 a0] rfl (by (try simp only [List.map_toArray, List.map_cons, List.map_nil]); first | done | rfl | (simp only [List.length_drop, List.length_take]; rfl)) ?_; (with_reducible refine (bit_Parse.calls k a0 t254 t255 _ A3.out).mono ?_); rintro e w' ⟨rfl, ⟨nd, rfl⟩⟩; refine ⟨_, rfl, ?_⟩) | ((with_reducible refine gate_callee (f := 36) rfl ?_); refine goesL_ (some 16) rfl rfl Tryd.func36 (by kernel_rfl) rfl #[.int .u8 a0] rfl (by (try simp only [List.map_toArray, List.map_cons, List.map_nil]); first | done | rfl | (simp only [List.length_drop, List.length_take]; rfl)) ?_; (with_reducible refine (netlabref01_Parse.calls k a0 t256 t257 _ A4.out).mono ?_); rintro e w' ⟨rfl, ⟨nd, rfl⟩⟩; refine ⟨_, rfl, ?_⟩))
      go_ret
      exact ⟨by first | rfl | (simp; done) | (simp [*]; done), by repeat (first | exact Drawn0.refl _ | apply Drawn0.step)⟩
  · rw [if_neg c5] at H
    have c5b0 : (t254 == t256) = false := beq_eq_false_iff_ne.mpr c5
    have c5b1 : (t254 != t256) = true := bne_iff_ne.mpr c5
    obtain rfl := Option.some.inj H
    go_enter Tryd.func9, Tryd.ntmps9
    go_wp2_with (first | ((with_reducible refine gate_callee (f := 35) rfl ?_); refine goesL_ (some 11) rfl rfl Tryd.func35 (by kernel_rfl) rfl #[.int .u8 a0] rfl (by (try simp only [List.map_toArray, List.map_cons, List.map_nil]); first | done | rfl | (simp only [List.length_drop, List.length_take]; rfl)) ?_; (with_reducible refine (bit_Parse.calls k a0 t254 t255 _ A3.out).mono ?_); rintro e w' ⟨rfl, ⟨nd, rfl⟩⟩; refine ⟨_, rfl, ?_⟩) | ((with_reducible refine gate_callee (f := 36) rfl ?_); refine goesL_ (some 16) rfl rfl Tryd.func36 (by kernel_rfl) rfl #[.int .u8 a0] rfl (by (try simp only [List.map_toArray, List.map_cons, List.map_nil]); first | done | rfl | (simp only [List.length_drop, List.length_take]; rfl)) ?_; (with_reducible refine (netlabref01_Parse.calls k a0 t256 t257 _ A4.out).mono ?_); rintro e w' ⟨rfl, ⟨nd, rfl⟩⟩; refine ⟨_, rfl, ?_⟩))
    go_ret
    exact ⟨by first | rfl | (simp; done) | (simp [*]; done), by repeat (first | exact Drawn0.refl _ | apply Drawn0.step)⟩

-- NOT PRINTED: function 10 (netlablaw01_BitBoolean)

end Go.Proofs.YteioheookffjiaaDoor.F
