-- Written by a program of this session (wip/tools/drive.py) over the kit's print.py.
import Derived.Test.YtcgckodhehnpnaaDoorF0
import Derived.Test.YtcgckodhehnpnaaDoorF1
import Derived.Test.YtcgckodhehnpnaaDoorF3
import Derived.Test.YtcgckodhehnpnaaDoorF4
import Derived.Test.YtcgckodhehnpnaaDoorF9
namespace Go.Proofs.YtcgckodhehnpnaaDoor.F
open Go.RowKit Go.Proofs.YtcgckodhehnpnaaDoorW.PrintWords Go.Proofs.YtcgckodhehnpnaaDoorW.PrintLast Go.Proofs.YtcgckodhehnpnaaDoorW.PrintMore
attribute [local go_sem] max2_int min2_int max_two min_two max_three min_three max_four min_four   -- for this text's walks alone
set_option linter.unusedVariables false
set_option linter.unusedSimpArgs false

attribute [local go_sem high] eqA25
/-! ### netlablaw02_StrengthDriveMatches: function 3 -/
def netlablaw02_StrengthDriveMatches.f (k : Nat) (a0 : Int) (a1 : Int) (a2 : Int) : Option (Bool) := (strength_Drive.f a0 a1 a2).bind fun bt222 => ((netlabref02_Drive.f a0 a1 a2).bind fun bt224 => (if (bt222.1 == bt224.1 && (bt222.2 == bt224.2)) = true then ((strength_Name.f a1 false).bind fun t226 => ((netlabref02_Name.f a1 false).bind fun t227 => (if t226.toList = t227.toList then ((strength_Name.f a2 true).bind fun t228 => ((netlabref02_Name.f a2 true).bind fun t229 => (if t228.toList = t229.toList then ((netlablaw02_awake.f k).bind fun t230 => (if t230 = true then (some true) else (none))) else (none)))) else (none)))) else (none)))
theorem netlablaw02_StrengthDriveMatches.mono : ∀ a0 a1 a2 k, LeO (netlablaw02_StrengthDriveMatches.f k a0 a1 a2) (netlablaw02_StrengthDriveMatches.f (k + 1) a0 a1 a2) := by
 intro a0 a1 a2 k
 unfold netlablaw02_StrengthDriveMatches.f
 repeat' first
   | (with_reducible exact netlablaw02_awake.mono _)
   | (with_reducible exact LeO.refl _)
   | (with_reducible exact LeO.none _)
   | (with_reducible refine LeO.ite ?_ ?_)
   | (with_reducible refine LeO.bind ?_ (fun _ => ?_))
   | exact netlablaw02_awake.mono _
   | exact LeO.none _
   | refine LeO.ite ?_ ?_
   | refine LeO.bind ?_ (fun _ => ?_)
set_option maxHeartbeats 8000000 in
set_option maxRecDepth 100000 in
theorem netlablaw02_StrengthDriveMatches.calls (k : Nat) (a0 : Int) (a1 : Int) (a2 : Int) (r : Bool) (w : World) (hG : Glob w) (h : netlablaw02_StrengthDriveMatches.f k a0 a1 a2 = some r) :
  Calls Tryd.prog 3 #[.int .u8 a0, .int .u8 a1, .int .u8 a2] w fun e w' => e = .returned (.bool r) ∧ Below w.heap.size w w' := by
 have HG := Aside0.mk hG
 clear hG
 have HB := Aside0.mk (Below.refl w.heap.size w)
 have H : ((strength_Drive.f a0 a1 a2).bind fun bt222 => ((netlabref02_Drive.f a0 a1 a2).bind fun bt224 => (if (bt222.1 == bt224.1 && (bt222.2 == bt224.2)) = true then ((strength_Name.f a1 false).bind fun t226 => ((netlabref02_Name.f a1 false).bind fun t227 => (if t226.toList = t227.toList then ((strength_Name.f a2 true).bind fun t228 => ((netlabref02_Name.f a2 true).bind fun t229 => (if t228.toList = t229.toList then ((netlablaw02_awake.f k).bind fun t230 => (if t230 = true then (some true) else (none))) else (none)))) else (none)))) else (none)))) = some r := h
 clear h
 replace H := Option.bind_eq_some_iff.mp H
 obtain ⟨⟨t222, t223⟩, A40, H⟩ := H
 replace H : ((netlabref02_Drive.f a0 a1 a2).bind fun bt224 => (if (t222 == bt224.1 && (t223 == bt224.2)) = true then ((strength_Name.f a1 false).bind fun t226 => ((netlabref02_Name.f a1 false).bind fun t227 => (if t226.toList = t227.toList then ((strength_Name.f a2 true).bind fun t228 => ((netlabref02_Name.f a2 true).bind fun t229 => (if t228.toList = t229.toList then ((netlablaw02_awake.f k).bind fun t230 => (if t230 = true then (some true) else (none))) else (none)))) else (none)))) else (none))) = some r := H
 have A4 := Aside0.mk A40
 clear A40
 replace H := Option.bind_eq_some_iff.mp H
 obtain ⟨⟨t224, t225⟩, A50, H⟩ := H
 replace H : (if (t222 == t224 && (t223 == t225)) = true then ((strength_Name.f a1 false).bind fun t226 => ((netlabref02_Name.f a1 false).bind fun t227 => (if t226.toList = t227.toList then ((strength_Name.f a2 true).bind fun t228 => ((netlabref02_Name.f a2 true).bind fun t229 => (if t228.toList = t229.toList then ((netlablaw02_awake.f k).bind fun t230 => (if t230 = true then (some true) else (none))) else (none)))) else (none)))) else (none)) = some r := H
 have A5 := Aside0.mk A50
 clear A50
 by_cases c6 : (t222 == t224 && (t223 == t225)) = true
 ·rw [if_pos c6] at H
  have c6b0 : (t222 == t224 && (t223 == t225)) = true := c6
  (try (have c6b1 : decide (t222 = t224 && (t223 == t225)) = true := by simpa using c6))
  (try (have c6b2 : (t222 == t224 && (t223 == t225)) = true := by simpa using c6))
  clear c6
  replace H := Option.bind_eq_some_iff.mp H
  obtain ⟨t226, A70, H⟩ := H
  replace H : ((netlabref02_Name.f a1 false).bind fun t227 => (if t226.toList = t227.toList then ((strength_Name.f a2 true).bind fun t228 => ((netlabref02_Name.f a2 true).bind fun t229 => (if t228.toList = t229.toList then ((netlablaw02_awake.f k).bind fun t230 => (if t230 = true then (some true) else (none))) else (none)))) else (none))) = some r := H
  have A7 := Aside0.mk A70
  clear A70
  replace H := Option.bind_eq_some_iff.mp H
  obtain ⟨t227, A80, H⟩ := H
  replace H : (if t226.toList = t227.toList then ((strength_Name.f a2 true).bind fun t228 => ((netlabref02_Name.f a2 true).bind fun t229 => (if t228.toList = t229.toList then ((netlablaw02_awake.f k).bind fun t230 => (if t230 = true then (some true) else (none))) else (none)))) else (none)) = some r := H
  have A8 := Aside0.mk A80
  clear A80
  by_cases c9 : t226.toList = t227.toList
  ·rw [if_pos c9] at H
   have c9b0 : (t226.toList == t227.toList) = true := beq_iff_eq.mpr c9
   have c9b1 : (t226.toList != t227.toList) = false := bne_eq_false_iff_eq.mpr c9
   clear c9
   replace H := Option.bind_eq_some_iff.mp H
   obtain ⟨t228, A100, H⟩ := H
   replace H : ((netlabref02_Name.f a2 true).bind fun t229 => (if t228.toList = t229.toList then ((netlablaw02_awake.f k).bind fun t230 => (if t230 = true then (some true) else (none))) else (none))) = some r := H
   have A10 := Aside0.mk A100
   clear A100
   replace H := Option.bind_eq_some_iff.mp H
   obtain ⟨t229, A110, H⟩ := H
   replace H : (if t228.toList = t229.toList then ((netlablaw02_awake.f k).bind fun t230 => (if t230 = true then (some true) else (none))) else (none)) = some r := H
   have A11 := Aside0.mk A110
   clear A110
   by_cases c12 : t228.toList = t229.toList
   ·rw [if_pos c12] at H
    have c12b0 : (t228.toList == t229.toList) = true := beq_iff_eq.mpr c12
    have c12b1 : (t228.toList != t229.toList) = false := bne_eq_false_iff_eq.mpr c12
    clear c12
    replace H := Option.bind_eq_some_iff.mp H
    obtain ⟨t230, A130, H⟩ := H
    replace H : (if t230 = true then (some true) else (none)) = some r := H
    have A13 := Aside0.mk A130
    clear A130
    by_cases c14 : t230 = true
    ·subst c14
     have H1 : (some true) = some r := by rw [if_pos rfl] at H; exact H
     clear H
     have H := H1
     clear H1
     obtain rfl := Option.some.inj H
     go_enter Tryd.func3, Tryd.ntmps3
     go_wp2_with (first | ((with_reducible refine gate_callee (f := 13) rfl ?_); refine goesL_ (some 10) rfl rfl Tryd.func13 (by kernel_rfl) rfl #[.int .u8 a0, .int .u8 a1, .int .u8 a2] rfl (by (try simp only [List.map_toArray, List.map_cons, List.map_nil]); first | done | rfl | (simp only [List.length_drop, List.length_take]; rfl)) ?_; (with_reducible refine (strength_Drive.calls a0 a1 a2 t222 t223 _ A4.out).mono ?_); rintro e w15 ⟨rfl, hb⟩; refine ⟨_, rfl, ?_⟩; have n0_ := Aside0.mk (below_step (by repeat (first | (with_reducible first | exact HB.out | apply below_alloc | apply pw_below_drewN | apply below_drew1) | exact HB.out)) hb); clear HB; have HB := n0_; clear n0_; (try clear hb); (try clear hb2); (try clear hk); (try clear hi)) | ((with_reducible refine gate_callee (f := 14) rfl ?_); refine goesL_ (some 14) rfl rfl Tryd.func14 (by kernel_rfl) rfl #[.int .u8 a0, .int .u8 a1, .int .u8 a2] rfl (by (try simp only [List.map_toArray, List.map_cons, List.map_nil]); first | done | rfl | (simp only [List.length_drop, List.length_take]; rfl)) ?_; (with_reducible refine (netlabref02_Drive.calls a0 a1 a2 t224 t225 _ A5.out).mono ?_); rintro e w16 ⟨rfl, hb⟩; refine ⟨_, rfl, ?_⟩; have n0_ := Aside0.mk (below_step (by repeat (first | (with_reducible first | exact HB.out | apply below_alloc | apply pw_below_drewN | apply below_drew1) | exact HB.out)) hb); clear HB; have HB := n0_; clear n0_; (try clear hb); (try clear hb2); (try clear hk); (try clear hi)) | (go_at_call 15; (with_reducible refine (strength_Name.calls a1 false t226 _ (Glob.below HG.out (by repeat (first | (with_reducible first | exact HB.out | apply below_alloc | apply pw_below_drewN | apply below_drew1) | exact HB.out))) A7.out).mono ?_); rintro e w' ⟨rfl, ⟨nd, rfl⟩⟩) | (go_at_call 16; (with_reducible refine (netlabref02_Name.calls a1 false t227 _ A8.out).mono ?_); rintro e w17 ⟨rfl, hb⟩; have n0_ := Aside0.mk (below_step (by repeat (first | (with_reducible first | exact HB.out | apply below_alloc | apply pw_below_drewN | apply below_drew1) | exact HB.out)) hb); clear HB; have HB := n0_; clear n0_; (try clear hb); (try clear hb2); (try clear hk); (try clear hi)) | (go_at_call 15; (with_reducible refine (strength_Name.calls a2 true t228 _ (Glob.below HG.out (by repeat (first | (with_reducible first | exact HB.out | apply below_alloc | apply pw_below_drewN | apply below_drew1) | exact HB.out))) A10.out).mono ?_); rintro e w' ⟨rfl, ⟨nd, rfl⟩⟩) | (go_at_call 16; (with_reducible refine (netlabref02_Name.calls a2 true t229 _ A11.out).mono ?_); rintro e w18 ⟨rfl, hb⟩; have n0_ := Aside0.mk (below_step (by repeat (first | (with_reducible first | exact HB.out | apply below_alloc | apply pw_below_drewN | apply below_drew1) | exact HB.out)) hb); clear HB; have HB := n0_; clear n0_; (try clear hb); (try clear hb2); (try clear hk); (try clear hi)) | (go_at_call 17; (with_reducible refine (netlablaw02_awake.calls k  true _ (Glob.below HG.out (by repeat (first | (with_reducible first | exact HB.out | apply below_alloc | apply pw_below_drewN | apply below_drew1) | exact HB.out))) A13.out).mono ?_); rintro e w19 ⟨rfl, hb⟩; have n0_ := Aside0.mk (below_step (by repeat (first | (with_reducible first | exact HB.out | apply below_alloc | apply pw_below_drewN | apply below_drew1) | exact HB.out)) hb); clear HB; have HB := n0_; clear n0_; (try clear hb); (try clear hb2); (try clear hk); (try clear hi)))
     go_ret
     exact ⟨by first | rfl | (simp [errW_none, errW_some] <;> rfl) | (simp [*, errW_none, errW_some] <;> rfl), by repeat (first | (with_reducible first | exact HB.out | apply below_alloc | apply pw_below_drewN | apply below_drew1) | exact HB.out)⟩
    ·replace c14 := Bool.eq_false_iff.mpr c14
     subst c14
     have H1 : (none) = some r := by rw [if_neg (show ¬ (false = true) by decide)] at H; exact H
     clear H
     have H := H1
     clear H1
     exact absurd H (by simp)
   ·rw [if_neg c12] at H
    exact absurd H (by simp)
  ·rw [if_neg c9] at H
   exact absurd H (by simp)
 ·rw [if_neg c6] at H
  exact absurd H (by simp)

/-! ### netlabref02_Parse: function 19 -/
def netlabref02_Parse.l0 : Nat → ByteArray → Int → Option (Int × Bool × Bool)
 | 0, _, _ => none
 | k + 1, x0, x5 => if x5 < 8 then ((netlabref02_Name.f x5 false).bind fun t231 => (if x0.toList = t231.toList then (some (x5, false, true)) else ((netlabref02_Name.f x5 true).bind fun t232 => (if x0.toList = t232.toList then (some (x5, true, true)) else (netlabref02_Parse.l0 k x0 ((x5 + 1) % 256)))))) else (some (0, false, false))
def netlabref02_Parse.f (k : Nat) (a0 : ByteArray) : Option (Int × Bool × Bool) := netlabref02_Parse.l0 k a0 0
theorem netlabref02_Parse.mono_l : ∀ k, (∀ y0 y1, LeO (netlabref02_Parse.l0 k y0 y1) (netlabref02_Parse.l0 (k + 1) y0 y1))
 | 0 => fun _ _ r h => by simp [netlabref02_Parse.l0] at h
 | k + 1 => by
  have ih0 := netlabref02_Parse.mono_l k
  ·intro y0 y1
   unfold netlabref02_Parse.l0
   repeat' first
   | (with_reducible exact ih0 _ _)
   | (with_reducible exact LeO.refl _)
   | (with_reducible exact LeO.none _)
   | (with_reducible refine LeO.ite ?_ ?_)
   | (with_reducible refine LeO.bind ?_ (fun _ => ?_))
   | exact ih0 _ _
   | exact LeO.none _
   | refine LeO.ite ?_ ?_
   | refine LeO.bind ?_ (fun _ => ?_)
theorem netlabref02_Parse.mono : ∀ a0 k, LeO (netlabref02_Parse.f k a0) (netlabref02_Parse.f (k + 1) a0) := by
 intro a0 k
 have ih0 := netlabref02_Parse.mono_l k
 unfold netlabref02_Parse.f
 repeat' first
   | (with_reducible exact ih0 _ _)
   | (with_reducible exact LeO.refl _)
   | (with_reducible exact LeO.none _)
   | (with_reducible refine LeO.ite ?_ ?_)
   | (with_reducible refine LeO.bind ?_ (fun _ => ?_))
   | exact ih0 _ _
   | exact LeO.none _
   | refine LeO.ite ?_ ?_
   | refine LeO.bind ?_ (fun _ => ?_)
set_option maxHeartbeats 8000000 in
set_option maxRecDepth 100000 in
theorem netlabref02_Parse.calls (k : Nat) (a0 : ByteArray) (r1 : Int) (r2 : Bool) (r3 : Bool) (w : World) (h : netlabref02_Parse.f k a0 = some (r1, r2, r3)) :
  Calls Tryd.prog 19 #[.string a0] w fun e w' => e = .returned (.tuple #[.int .u8 r1, .bool r2, .bool r3]) ∧ Below w.heap.size w w' := by
 have HB := Aside0.mk (Below.refl w.heap.size w)
 have H : (netlabref02_Parse.l0 k a0 0) = some (r1, r2, r3) := h
 clear h
 have H' := Aside0.mk H
 clear H
 go_enter Tryd.func19, Tryd.ntmps19
 go_wp2
 go_loopg [5] k (fun kq v5 w' => ∃ (x5_1 : Int), v5 = .int .u8 x5_1 ∧ Aside0 (netlabref02_Parse.l0 kq a0 x5_1 = some (r1, r2, r3)) ∧ Aside0 (kq ≤ k) ∧ Aside0 (Below w.heap.size w w'))
 case atStart => exact ⟨(0), (by first | rfl | (simp; done) | (simp [*]; done)), H', ⟨Nat.le_refl _⟩, ⟨by repeat (first | (with_reducible first | exact HB.out | apply below_alloc | apply pw_below_drewN | apply below_drew1) | exact HB.out)⟩⟩
 case round =>
  clear H'
  try clear c1
  obtain ⟨x5_1, rfl, HA, HK1, HB⟩ := hrel
  cases gk with
  | zero => exact absurd HA.out (by simp [netlabref02_Parse.l0])
  | succ k1 =>
   have H := HA.out
   clear HA
   simp only [netlabref02_Parse.l0] at H
   by_cases c2 : x5_1 < 8
   ·rw [if_pos c2] at H
    have c2b0 : decide (x5_1 < 8) = true := decide_eq_true c2
    clear c2
    replace H := Option.bind_eq_some_iff.mp H
    obtain ⟨t231, A30, H⟩ := H
    replace H : (if a0.toList = t231.toList then (some (x5_1, false, true)) else ((netlabref02_Name.f x5_1 true).bind fun t232 => (if a0.toList = t232.toList then (some (x5_1, true, true)) else (netlabref02_Parse.l0 k1 a0 ((x5_1 + 1) % 256))))) = some (r1, r2, r3) := H
    have A3 := Aside0.mk A30
    clear A30
    by_cases c4 : a0.toList = t231.toList
    ·rw [if_pos c4] at H
     have c4b0 : (a0.toList == t231.toList) = true := beq_iff_eq.mpr c4
     have c4b1 : (a0.toList != t231.toList) = false := bne_eq_false_iff_eq.mpr c4
     clear c4
     simp only [Option.some.injEq, Prod.mk.injEq] at H
     obtain ⟨rfl, rfl, rfl⟩ := H
     go_wp2_with (first | ((with_reducible refine gate_callee (f := 16) rfl ?_); refine goesL_ (some 12) rfl rfl Tryd.func16 (by kernel_rfl) rfl #[.int .u8 x5_1, .bool false] rfl (by (try simp only [List.map_toArray, List.map_cons, List.map_nil]); first | done | rfl | (simp only [List.length_drop, List.length_take]; rfl)) ?_; (with_reducible refine (netlabref02_Name.calls x5_1 false t231 _ A3.out).mono ?_); rintro e w5 ⟨rfl, hb⟩; refine ⟨_, rfl, ?_⟩; have n0_ := Aside0.mk (below_step (by repeat (first | (with_reducible first | exact HB.out | apply below_alloc | apply pw_below_drewN | apply below_drew1) | exact HB.out)) hb); clear HB; have HB := n0_; clear n0_; (try clear hb); (try clear hb2); (try clear hk); (try clear hi)))
     go_ret3
     exact ⟨by first | rfl | (simp [errW_none, errW_some] <;> rfl) | (simp [*, errW_none, errW_some] <;> rfl), by repeat (first | (with_reducible first | exact HB.out | apply below_alloc | apply pw_below_drewN | apply below_drew1) | exact HB.out)⟩
    ·rw [if_neg c4] at H
     have c4b0 : (a0.toList == t231.toList) = false := beq_eq_false_iff_ne.mpr c4
     have c4b1 : (a0.toList != t231.toList) = true := bne_iff_ne.mpr c4
     replace H := Option.bind_eq_some_iff.mp H
     obtain ⟨t232, A60, H⟩ := H
     replace H : (if a0.toList = t232.toList then (some (x5_1, true, true)) else (netlabref02_Parse.l0 k1 a0 ((x5_1 + 1) % 256))) = some (r1, r2, r3) := H
     have A6 := Aside0.mk A60
     clear A60
     by_cases c7 : a0.toList = t232.toList
     ·rw [if_pos c7] at H
      have c7b0 : (a0.toList == t232.toList) = true := beq_iff_eq.mpr c7
      have c7b1 : (a0.toList != t232.toList) = false := bne_eq_false_iff_eq.mpr c7
      clear c7
      simp only [Option.some.injEq, Prod.mk.injEq] at H
      obtain ⟨rfl, rfl, rfl⟩ := H
      go_wp2_with (first | ((with_reducible refine gate_callee (f := 16) rfl ?_); refine goesL_ (some 12) rfl rfl Tryd.func16 (by kernel_rfl) rfl #[.int .u8 x5_1, .bool false] rfl (by (try simp only [List.map_toArray, List.map_cons, List.map_nil]); first | done | rfl | (simp only [List.length_drop, List.length_take]; rfl)) ?_; (with_reducible refine (netlabref02_Name.calls x5_1 false t231 _ A3.out).mono ?_); rintro e w8 ⟨rfl, hb⟩; refine ⟨_, rfl, ?_⟩; have n0_ := Aside0.mk (below_step (by repeat (first | (with_reducible first | exact HB.out | apply below_alloc | apply pw_below_drewN | apply below_drew1) | exact HB.out)) hb); clear HB; have HB := n0_; clear n0_; (try clear hb); (try clear hb2); (try clear hk); (try clear hi)) | ((with_reducible refine gate_callee (f := 16) rfl ?_); refine goesL_ (some 17) rfl rfl Tryd.func16 (by kernel_rfl) rfl #[.int .u8 x5_1, .bool true] rfl (by (try simp only [List.map_toArray, List.map_cons, List.map_nil]); first | done | rfl | (simp only [List.length_drop, List.length_take]; rfl)) ?_; (with_reducible refine (netlabref02_Name.calls x5_1 true t232 _ A6.out).mono ?_); rintro e w9 ⟨rfl, hb⟩; refine ⟨_, rfl, ?_⟩; have n0_ := Aside0.mk (below_step (by repeat (first | (with_reducible first | exact HB.out | apply below_alloc | apply pw_below_drewN | apply below_drew1) | exact HB.out)) hb); clear HB; have HB := n0_; clear n0_; (try clear hb); (try clear hb2); (try clear hk); (try clear hi)))
      go_ret3
      exact ⟨by first | rfl | (simp [errW_none, errW_some] <;> rfl) | (simp [*, errW_none, errW_some] <;> rfl), by repeat (first | (with_reducible first | exact HB.out | apply below_alloc | apply pw_below_drewN | apply below_drew1) | exact HB.out)⟩
     ·rw [if_neg c7] at H
      have c7b0 : (a0.toList == t232.toList) = false := beq_eq_false_iff_ne.mpr c7
      have c7b1 : (a0.toList != t232.toList) = true := bne_iff_ne.mpr c7
      have H' := Aside0.mk H
      clear H
      go_wp2_with (first | ((with_reducible refine gate_callee (f := 16) rfl ?_); refine goesL_ (some 12) rfl rfl Tryd.func16 (by kernel_rfl) rfl #[.int .u8 x5_1, .bool false] rfl (by (try simp only [List.map_toArray, List.map_cons, List.map_nil]); first | done | rfl | (simp only [List.length_drop, List.length_take]; rfl)) ?_; (with_reducible refine (netlabref02_Name.calls x5_1 false t231 _ A3.out).mono ?_); rintro e w10 ⟨rfl, hb⟩; refine ⟨_, rfl, ?_⟩; have n0_ := Aside0.mk (below_step (by repeat (first | (with_reducible first | exact HB.out | apply below_alloc | apply pw_below_drewN | apply below_drew1) | exact HB.out)) hb); clear HB; have HB := n0_; clear n0_; (try clear hb); (try clear hb2); (try clear hk); (try clear hi)) | ((with_reducible refine gate_callee (f := 16) rfl ?_); refine goesL_ (some 17) rfl rfl Tryd.func16 (by kernel_rfl) rfl #[.int .u8 x5_1, .bool true] rfl (by (try simp only [List.map_toArray, List.map_cons, List.map_nil]); first | done | rfl | (simp only [List.length_drop, List.length_take]; rfl)) ?_; (with_reducible refine (netlabref02_Name.calls x5_1 true t232 _ A6.out).mono ?_); rintro e w11 ⟨rfl, hb⟩; refine ⟨_, rfl, ?_⟩; have n0_ := Aside0.mk (below_step (by repeat (first | (with_reducible first | exact HB.out | apply below_alloc | apply pw_below_drewN | apply below_drew1) | exact HB.out)) hb); clear HB; have HB := n0_; clear n0_; (try clear hb); (try clear hb2); (try clear hk); (try clear hi)))
      go_roundg k1
      case measure => have := HK1.out; omega
      case rel => exact ⟨((x5_1 + 1) % 256), (by first | rfl | (simp; done) | (simp [*]; done)), H', ⟨by have := HK1.out; omega⟩, ⟨by repeat (first | (with_reducible first | exact HB.out | apply below_alloc | apply pw_below_drewN | apply below_drew1) | exact HB.out)⟩⟩
   ·rw [if_neg c2] at H
    have c2b0 : decide (x5_1 < 8) = false := decide_eq_false c2
    clear c2
    simp only [Option.some.injEq, Prod.mk.injEq] at H
    obtain ⟨rfl, rfl, rfl⟩ := H
    go_wp2
    go_ret3
    exact ⟨by first | rfl | (simp [errW_none, errW_some] <;> rfl) | (simp [*, errW_none, errW_some] <;> rfl), by repeat (first | (with_reducible first | exact HB.out | apply below_alloc | apply pw_below_drewN | apply below_drew1) | exact HB.out)⟩

/-! ### netlablaw02_StrengthParseMatches: function 4 -/
def netlablaw02_StrengthParseMatches.f (k : Nat) (a0 : ByteArray) : Option (Bool) := (strength_Parse.f a0).bind fun bt233 => ((netlabref02_Parse.f k a0).bind fun bt236 => (if bt233.1 = bt236.1 then (if (bt233.2.1 == bt236.2.1) = true then (if (bt233.2.2 == bt236.2.2) = true then ((netlablaw02_awake.f k).bind fun t239 => (if t239 = true then (some true) else (none))) else (none)) else (none)) else (none)))
theorem netlablaw02_StrengthParseMatches.mono : ∀ a0 k, LeO (netlablaw02_StrengthParseMatches.f k a0) (netlablaw02_StrengthParseMatches.f (k + 1) a0) := by
 intro a0 k
 unfold netlablaw02_StrengthParseMatches.f
 repeat' first
   | (with_reducible exact netlablaw02_awake.mono _)
   | (with_reducible exact netlabref02_Parse.mono _ _)
   | (with_reducible exact LeO.refl _)
   | (with_reducible exact LeO.none _)
   | (with_reducible refine LeO.ite ?_ ?_)
   | (with_reducible refine LeO.bind ?_ (fun _ => ?_))
   | exact netlablaw02_awake.mono _
   | exact netlabref02_Parse.mono _ _
   | exact LeO.none _
   | refine LeO.ite ?_ ?_
   | refine LeO.bind ?_ (fun _ => ?_)
set_option maxHeartbeats 8000000 in
set_option maxRecDepth 100000 in
theorem netlablaw02_StrengthParseMatches.calls (k : Nat) (a0 : ByteArray) (r : Bool) (w : World) (hG : Glob w) (h : netlablaw02_StrengthParseMatches.f k a0 = some r) :
  Calls Tryd.prog 4 #[.string a0] w fun e w' => e = .returned (.bool r) ∧ Below w.heap.size w w' := by
 have HG := Aside0.mk hG
 clear hG
 have HB := Aside0.mk (Below.refl w.heap.size w)
 have H : ((strength_Parse.f a0).bind fun bt233 => ((netlabref02_Parse.f k a0).bind fun bt236 => (if bt233.1 = bt236.1 then (if (bt233.2.1 == bt236.2.1) = true then (if (bt233.2.2 == bt236.2.2) = true then ((netlablaw02_awake.f k).bind fun t239 => (if t239 = true then (some true) else (none))) else (none)) else (none)) else (none)))) = some r := h
 clear h
 replace H := Option.bind_eq_some_iff.mp H
 obtain ⟨⟨t233, t234, t235⟩, A20, H⟩ := H
 replace H : ((netlabref02_Parse.f k a0).bind fun bt236 => (if t233 = bt236.1 then (if (t234 == bt236.2.1) = true then (if (t235 == bt236.2.2) = true then ((netlablaw02_awake.f k).bind fun t239 => (if t239 = true then (some true) else (none))) else (none)) else (none)) else (none))) = some r := H
 have A2 := Aside0.mk A20
 clear A20
 replace H := Option.bind_eq_some_iff.mp H
 obtain ⟨⟨t236, t237, t238⟩, A30, H⟩ := H
 replace H : (if t233 = t236 then (if (t234 == t237) = true then (if (t235 == t238) = true then ((netlablaw02_awake.f k).bind fun t239 => (if t239 = true then (some true) else (none))) else (none)) else (none)) else (none)) = some r := H
 have A3 := Aside0.mk A30
 clear A30
 by_cases c4 : t233 = t236
 ·rw [if_pos c4] at H
  have c4b0 : (t233 == t236) = true := beq_iff_eq.mpr c4
  have c4b1 : (t233 != t236) = false := bne_eq_false_iff_eq.mpr c4
  clear c4
  by_cases c5 : (t234 == t237) = true
  ·rw [if_pos c5] at H
   have c5b0 : (t234 == t237) = true := c5
   (try (have c5b1 : decide (t234 = t237) = true := by simpa using c5))
   (try (have c5b2 : (t234 == t237) = true := by simpa using c5))
   clear c5
   by_cases c6 : (t235 == t238) = true
   ·rw [if_pos c6] at H
    have c6b0 : (t235 == t238) = true := c6
    (try (have c6b1 : decide (t235 = t238) = true := by simpa using c6))
    (try (have c6b2 : (t235 == t238) = true := by simpa using c6))
    clear c6
    replace H := Option.bind_eq_some_iff.mp H
    obtain ⟨t239, A70, H⟩ := H
    replace H : (if t239 = true then (some true) else (none)) = some r := H
    have A7 := Aside0.mk A70
    clear A70
    by_cases c8 : t239 = true
    ·subst c8
     have H1 : (some true) = some r := by rw [if_pos rfl] at H; exact H
     clear H
     have H := H1
     clear H1
     obtain rfl := Option.some.inj H
     go_enter Tryd.func4, Tryd.ntmps4
     go_wp2_with (first | ((with_reducible refine gate_callee (f := 18) rfl ?_); refine goesL_ (some 11) rfl rfl Tryd.func18 (by kernel_rfl) rfl #[.string a0] rfl (by (try simp only [List.map_toArray, List.map_cons, List.map_nil]); first | done | rfl | (simp only [List.length_drop, List.length_take]; rfl)) ?_; (with_reducible refine (strength_Parse.calls a0 t233 t234 t235 _ (Glob.below HG.out (by repeat (first | (with_reducible first | exact HB.out | apply below_alloc | apply pw_below_drewN | apply below_drew1) | exact HB.out))) A2.out).mono ?_); rintro e w' ⟨rfl, ⟨nd, rfl⟩⟩; refine ⟨_, rfl, ?_⟩) | ((with_reducible refine gate_callee (f := 19) rfl ?_); refine goesL_ (some 17) rfl rfl Tryd.func19 (by kernel_rfl) rfl #[.string a0] rfl (by (try simp only [List.map_toArray, List.map_cons, List.map_nil]); first | done | rfl | (simp only [List.length_drop, List.length_take]; rfl)) ?_; (with_reducible refine (netlabref02_Parse.calls k a0 t236 t237 t238 _ A3.out).mono ?_); rintro e w9 ⟨rfl, hb⟩; refine ⟨_, rfl, ?_⟩; have n0_ := Aside0.mk (below_step (by repeat (first | (with_reducible first | exact HB.out | apply below_alloc | apply pw_below_drewN | apply below_drew1) | exact HB.out)) hb); clear HB; have HB := n0_; clear n0_; (try clear hb); (try clear hb2); (try clear hk); (try clear hi)) | (go_at_call 17; (with_reducible refine (netlablaw02_awake.calls k  true _ (Glob.below HG.out (by repeat (first | (with_reducible first | exact HB.out | apply below_alloc | apply pw_below_drewN | apply below_drew1) | exact HB.out))) A7.out).mono ?_); rintro e w10 ⟨rfl, hb⟩; have n0_ := Aside0.mk (below_step (by repeat (first | (with_reducible first | exact HB.out | apply below_alloc | apply pw_below_drewN | apply below_drew1) | exact HB.out)) hb); clear HB; have HB := n0_; clear n0_; (try clear hb); (try clear hb2); (try clear hk); (try clear hi)))
     go_ret
     exact ⟨by first | rfl | (simp [errW_none, errW_some] <;> rfl) | (simp [*, errW_none, errW_some] <;> rfl), by repeat (first | (with_reducible first | exact HB.out | apply below_alloc | apply pw_below_drewN | apply below_drew1) | exact HB.out)⟩
    ·replace c8 := Bool.eq_false_iff.mpr c8
     subst c8
     have H1 : (none) = some r := by rw [if_neg (show ¬ (false = true) by decide)] at H; exact H
     clear H
     have H := H1
     clear H1
     exact absurd H (by simp)
   ·rw [if_neg c6] at H
    exact absurd H (by simp)
  ·rw [if_neg c5] at H
   exact absurd H (by simp)
 ·rw [if_neg c4] at H
  exact absurd H (by simp)

end Go.Proofs.YtcgckodhehnpnaaDoor.F
