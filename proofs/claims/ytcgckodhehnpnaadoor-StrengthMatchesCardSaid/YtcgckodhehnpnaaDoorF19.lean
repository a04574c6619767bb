-- Written by a program of this session (wip/tools/drive.py) over the kit's print.py.
import Derived.Test.YtcgckodhehnpnaaDoorF0
import Derived.Test.YtcgckodhehnpnaaDoorF1
import Derived.Test.YtcgckodhehnpnaaDoorF2
import Derived.Test.YtcgckodhehnpnaaDoorF5
import Derived.Test.YtcgckodhehnpnaaDoorF7
import Derived.Test.YtcgckodhehnpnaaDoorF8
import Derived.Test.YtcgckodhehnpnaaDoorF9
import Derived.Test.YtcgckodhehnpnaaDoorF13
import Derived.Test.YtcgckodhehnpnaaDoorF14
import Derived.Test.YtcgckodhehnpnaaDoorF17
import Derived.Test.YtcgckodhehnpnaaDoorF18
namespace Go.Proofs.YtcgckodhehnpnaaDoor.F
open Go.RowKit Go.Proofs.YtcgckodhehnpnaaDoorW.PrintWords Go.Proofs.YtcgckodhehnpnaaDoorW.PrintLast Go.Proofs.YtcgckodhehnpnaaDoorW.PrintMore
attribute [local go_sem] max2_int min2_int max_two min_two max_three min_three max_four min_four   -- for this text's walks alone
set_option linter.unusedVariables false
set_option linter.unusedSimpArgs false

attribute [local go_sem high] eqA25 eqA26
/-! ### netlablaw02_StrengthMatches: function 8 -/
def netlablaw02_StrengthMatches.l0 : Nat → List (S35) → Int → List (S26) → Int → Option (Bool)
  | 0, _, _, _, _ => none
  | k + 1, x0, x1, x5, x6 => if x6 < (x0.length : Int) then (if 0 ≤ x6 then (if x6 < (x5.length : Int) then (if (!(((rd_T26 x5 x6).f0) == ((rd_T35 x0 x6).f0)) || (!(((rd_T26 x5 x6).f1) == ((rd_T35 x0 x6).f1)))) = true then (none) else ((strength_Norm.f ((rd_T35 x0 x6).f0) ((rd_T35 x0 x6).f1)).bind fun bt400 => ((netlabref02_Norm.f ((rd_T35 x0 x6).f0) ((rd_T35 x0 x6).f1)).bind fun bt402 => (if (!(bt400.1 == bt402.1) || (!(bt400.2 == bt402.2))) = true then (none) else ((strength_Valid.f ((rd_T35 x0 x6).f0) ((rd_T35 x0 x6).f1)).bind fun t404 => ((netlabref02_Norm.f ((rd_T35 x0 x6).f0) ((rd_T35 x0 x6).f1)).bind fun bt405 => (if (t404 != (bt405.1 == ((rd_T35 x0 x6).f0) && (bt405.2 == ((rd_T35 x0 x6).f1)))) = true then (none) else ((strength_Read.f ((rd_T35 x0 x6).f0) ((rd_T35 x0 x6).f1)).bind fun t407 => ((netlabref02_Read.f ((rd_T35 x0 x6).f0) ((rd_T35 x0 x6).f1)).bind fun t408 => (if t407 = t408 then ((strength_Contains.f ((rd_T35 x0 x6).f0) ((rd_T35 x0 x6).f1) x1).bind fun t409 => ((netlabref02_Contains.f ((rd_T35 x0 x6).f0) ((rd_T35 x0 x6).f1) x1).bind fun t410 => (if (t409 != t410) = true then (none) else (netlablaw02_StrengthMatches.l0 k x0 x1 x5 (wrap64 (x6 + 1)))))) else (none))))))))))) else (none)) else (none)) else ((netlablaw02_awake.f k).bind fun t394 => (if t394 = true then (some true) else (none)))
def netlablaw02_StrengthMatches.f (k : Nat) (l0 : List (S35)) (a1 : Int) : Option (Bool) := if (l0.length : Int) > 60 then ((netlablaw02_awake.f k).bind fun t383 => (if t383 = true then (some true) else (none))) else ((netlablaw02_given.f k l0).bind fun t384 => ((strength_Combine.f k t384).bind fun bt387 => ((netlablaw02_told.f k l0).bind fun t389 => ((netlabref02_Combine.f k t389).bind fun bt392 => (if (!(bt387.1 == bt392.1) || (!(bt387.2 == bt392.2))) = true then (none) else (netlablaw02_StrengthMatches.l0 k l0 a1 t384 0))))))
theorem netlablaw02_StrengthMatches.mono_l : ∀ k, (∀ y0 y1 y2 y3, LeO (netlablaw02_StrengthMatches.l0 k y0 y1 y2 y3) (netlablaw02_StrengthMatches.l0 (k + 1) y0 y1 y2 y3))
  | 0 => fun _ _ _ _ r h => by simp [netlablaw02_StrengthMatches.l0] at h
  | k + 1 => by
    have ih0 := netlablaw02_StrengthMatches.mono_l k
    · intro y0 y1 y2 y3
      unfold netlablaw02_StrengthMatches.l0
      repeat' first
      | (with_reducible exact ih0 _ _ _ _)
      | (with_reducible exact netlablaw02_awake.mono _)
      | (with_reducible exact netlablaw02_given.mono _ _)
      | (with_reducible exact netlablaw02_told.mono _ _)
      | (with_reducible exact netlabref02_Combine.mono _ _)
      | (with_reducible exact strength_Combine.mono _ _)
      | (with_reducible exact LeO.refl _)
      | (with_reducible exact LeO.none _)
      | (with_reducible refine LeO.ite ?_ ?_)
      | (with_reducible refine LeO.bind ?_ (fun _ => ?_))
      | exact ih0 _ _ _ _
      | exact netlablaw02_awake.mono _
      | exact netlablaw02_given.mono _ _
      | exact netlablaw02_told.mono _ _
      | exact netlabref02_Combine.mono _ _
      | exact strength_Combine.mono _ _
      | exact LeO.none _
      | refine LeO.ite ?_ ?_
      | refine LeO.bind ?_ (fun _ => ?_)
theorem netlablaw02_StrengthMatches.mono : ∀ a0 a1 k, LeO (netlablaw02_StrengthMatches.f k a0 a1) (netlablaw02_StrengthMatches.f (k + 1) a0 a1) := by
  intro a0 a1 k
  have ih0 := netlablaw02_StrengthMatches.mono_l k
  unfold netlablaw02_StrengthMatches.f
  repeat' first
      | (with_reducible exact ih0 _ _ _ _)
      | (with_reducible exact netlablaw02_awake.mono _)
      | (with_reducible exact netlablaw02_given.mono _ _)
      | (with_reducible exact netlablaw02_told.mono _ _)
      | (with_reducible exact netlabref02_Combine.mono _ _)
      | (with_reducible exact strength_Combine.mono _ _)
      | (with_reducible exact LeO.refl _)
      | (with_reducible exact LeO.none _)
      | (with_reducible refine LeO.ite ?_ ?_)
      | (with_reducible refine LeO.bind ?_ (fun _ => ?_))
      | exact ih0 _ _ _ _
      | exact netlablaw02_awake.mono _
      | exact netlablaw02_given.mono _ _
      | exact netlablaw02_told.mono _ _
      | exact netlabref02_Combine.mono _ _
      | exact strength_Combine.mono _ _
      | exact LeO.none _
      | refine LeO.ite ?_ ?_
      | refine LeO.bind ?_ (fun _ => ?_)
def netlablaw02_StrengthMatches.T9 : Bool × List (List Nat × List Nat) := (true, [([], []), ([], []), ([0, 1], [0, 1]), ([2], [2]), ([], []), ([], []), ([4, 5], [4, 5]), ([6], [6]), ([], []), ([], []), ([8, 3, 0, 1, 2, 3, 8, 9], [3, 8]), ([9, 7, 10, 0, 1, 2, 3, 4, 5, 6, 7, 8, 9, 10], [7, 9])])
def netlablaw02_StrengthMatches.B9 : List Nat := [0, 0, 3, 7, 0, 0, 48, 112, 0, 0, 783, 2047]
theorem netlablaw02_StrengthMatches.tab9 : rtab .any (opsOf Tryd.f8 9) = netlablaw02_StrengthMatches.T9 := by kernel_rfl
theorem netlablaw02_StrengthMatches.bits9 : waitsOk netlablaw02_StrengthMatches.T9.2 netlablaw02_StrengthMatches.B9 = true := by kernel_rfl
def netlablaw02_StrengthMatches.T10 : Bool × List (List Nat × List Nat) := (true, [([], []), ([], []), ([0, 1], [0, 1]), ([2], [2]), ([], []), ([3, 4], [3, 4]), ([5], [5]), ([6], [6]), ([7, 6, 6], [6, 7]), ([6], [6]), ([9, 8, 6], [6, 9]), ([8, 10, 6], [6, 8, 10]), ([6, 11], [6, 11]), ([12, 10], [12]), ([13], [13]), ([14, 13, 13], [13, 14]), ([13], [13]), ([16, 15, 13], [13, 16]), ([13], [13]), ([17, 18, 13], [13, 17, 18]), ([15, 19, 13], [13, 15, 19]), ([13, 20], [13, 20]), ([21, 17], [21]), ([22], [22]), ([23, 22, 22], [22, 23]), ([22], [22]), ([25, 24, 22], [22, 25]), ([24, 26, 22], [22, 24, 26]), ([22, 27], [22, 27]), ([28, 26], [28]), ([29], [29]), ([29], [29]), ([30, 31, 29, 29], [29, 30, 31]), ([29], [29]), ([29], [29]), ([33, 34, 32, 29], [29, 33, 34]), ([32, 35, 29], [29, 32, 35]), ([29, 36], [29, 36])])
def netlablaw02_StrengthMatches.B10 : List Nat := [0, 0, 3, 7, 0, 31, 63, 127, 255, 127, 1023, 2047, 4095, 8191, 16383, 32767, 16383, 131071, 16383, 524287, 1048575, 2097151, 4194303, 8388607, 16777215, 8388607, 67108863, 134217727, 268435455, 536870911, 1073741823, 1073741823, 4294967295, 1073741823, 1073741823, 34359738367, 68719476735, 137438953471]
theorem netlablaw02_StrengthMatches.tab10 : rtab .any (opsOf Tryd.f8 10) = netlablaw02_StrengthMatches.T10 := by kernel_rfl
theorem netlablaw02_StrengthMatches.bits10 : waitsOk netlablaw02_StrengthMatches.T10.2 netlablaw02_StrengthMatches.B10 = true := by kernel_rfl
set_option maxHeartbeats 8000000 in
set_option maxRecDepth 100000 in
theorem netlablaw02_StrengthMatches.calls (k : Nat) (A0 : Option Addr) (c0 : Nat) (l0 : List (S35)) (a1 : Int) (r : Bool) (w : World) (hG : Glob w) (hr0 : Kd.C k35 w A0 l0.length l0) (hc0 : l0.length ≤ c0) (h : netlablaw02_StrengthMatches.f k l0 a1 = some r) :
    Calls Tryd.prog 8 #[.slice A0 l0.length c0, .int .i64 a1] w fun e w' => e = .returned (.bool r) ∧ Below w.heap.size w w' := by
  have hu35 := Tryd.underlying35
  have hu26 := Tryd.underlying26
  have hu25 := Tryd.underlying25
  have HR0 := Aside0.mk hr0
  have HC0 := Aside0.mk hc0
  clear hr0 hc0
  have HG := Aside0.mk hG
  clear hG
  have HB := Aside0.mk (Below.refl w.heap.size w)
  have H : (if (l0.length : Int) > 60 then ((netlablaw02_awake.f k).bind fun t383 => (if t383 = true then (some true) else (none))) else ((netlablaw02_given.f k l0).bind fun t384 => ((strength_Combine.f k t384).bind fun bt387 => ((netlablaw02_told.f k l0).bind fun t389 => ((netlabref02_Combine.f k t389).bind fun bt392 => (if (!(bt387.1 == bt392.1) || (!(bt387.2 == bt392.2))) = true then (none) else (netlablaw02_StrengthMatches.l0 k l0 a1 t384 0))))))) = some r := h
  clear h
  by_cases c3 : (l0.length : Int) > 60
  · rw [if_pos c3] at H
    have c3b0 : decide (60 < (l0.length : Int)) = true := decide_eq_true c3
    have c3b1 : decide (60 < l0.length) = true := decide_eq_true (by omega)
    clear c3
    replace H := Option.bind_eq_some_iff.mp H
    obtain ⟨t383, A40, H⟩ := H
    replace H : (if t383 = true then (some true) else (none)) = some r := H
    have A4 := Aside0.mk A40
    clear A40
    by_cases c5 : t383 = true
    · subst c5
      have H1 : (some true) = some r := by rw [if_pos rfl] at H; exact H
      clear H
      have H := H1
      clear H1
      obtain rfl := Option.some.inj H
      go_enter Tryd.func8, Tryd.ntmps8
      go_wp2_with (first | ((with_reducible refine gate_callee (f := 17) rfl ?_); refine goesL_ (some 12) rfl rfl Tryd.func17 (by kernel_rfl) rfl #[] rfl (by (try simp only [List.map_toArray, List.map_cons, List.map_nil]); first | done | rfl | (simp only [List.length_drop, List.length_take]; rfl)) ?_; (with_reducible refine (netlablaw02_awake.calls k  true _ (Glob.below HG.out (by repeat (first | (with_reducible first | exact HB.out | apply below_alloc | apply pw_below_drewN | apply below_drew1) | exact HB.out))) A4.out).mono ?_); rintro e w6 ⟨rfl, hb⟩; refine ⟨_, rfl, ?_⟩; have n0_ := Aside0.mk (below_step (by repeat (first | (with_reducible first | exact HB.out | apply below_alloc | apply pw_below_drewN | apply below_drew1) | exact HB.out)) hb); clear HB; have HB := n0_; clear n0_; (try clear hb); (try clear hb2); (try clear hk); (try clear hi)))
      go_ret
      exact ⟨by first | rfl | (simp [errW_none, errW_some] <;> rfl) | (simp [*, errW_none, errW_some] <;> rfl), by repeat (first | (with_reducible first | exact HB.out | apply below_alloc | apply pw_below_drewN | apply below_drew1) | exact HB.out)⟩
    · replace c5 := Bool.eq_false_iff.mpr c5
      subst c5
      have H1 : (none) = some r := by rw [if_neg (show ¬ (false = true) by decide)] at H; exact H
      clear H
      have H := H1
      clear H1
      exact absurd H (by simp)
  · rw [if_neg c3] at H
    have c3b0 : decide (60 < (l0.length : Int)) = false := decide_eq_false c3
    have c3b1 : decide (60 < l0.length) = false := decide_eq_false (by omega)
    clear c3
    replace H := Option.bind_eq_some_iff.mp H
    obtain ⟨t384, A70, H⟩ := H
    replace H : ((strength_Combine.f k t384).bind fun bt387 => ((netlablaw02_told.f k l0).bind fun t389 => ((netlabref02_Combine.f k t389).bind fun bt392 => (if (!(bt387.1 == bt392.1) || (!(bt387.2 == bt392.2))) = true then (none) else (netlablaw02_StrengthMatches.l0 k l0 a1 t384 0))))) = some r := H
    have A7 := Aside0.mk A70
    clear A70
    replace H := Option.bind_eq_some_iff.mp H
    obtain ⟨⟨t387, t388⟩, A80, H⟩ := H
    replace H : ((netlablaw02_told.f k l0).bind fun t389 => ((netlabref02_Combine.f k t389).bind fun bt392 => (if (!(t387 == bt392.1) || (!(t388 == bt392.2))) = true then (none) else (netlablaw02_StrengthMatches.l0 k l0 a1 t384 0)))) = some r := H
    have A8 := Aside0.mk A80
    clear A80
    replace H := Option.bind_eq_some_iff.mp H
    obtain ⟨t389, A90, H⟩ := H
    replace H : ((netlabref02_Combine.f k t389).bind fun bt392 => (if (!(t387 == bt392.1) || (!(t388 == bt392.2))) = true then (none) else (netlablaw02_StrengthMatches.l0 k l0 a1 t384 0))) = some r := H
    have A9 := Aside0.mk A90
    clear A90
    replace H := Option.bind_eq_some_iff.mp H
    obtain ⟨⟨t392, t393⟩, A100, H⟩ := H
    replace H : (if (!(t387 == t392) || (!(t388 == t393))) = true then (none) else (netlablaw02_StrengthMatches.l0 k l0 a1 t384 0)) = some r := H
    have A10 := Aside0.mk A100
    clear A100
    by_cases c11 : (!(t387 == t392) || (!(t388 == t393))) = true
    · rw [if_pos c11] at H
      exact absurd H (by simp)
    · rw [if_neg c11] at H
      have c11b0 : (!(t387 == t392) || (!(t388 == t393))) = false := by simpa using c11
      clear c11
      have H' := Aside0.mk H
      clear H
      go_enter Tryd.func8, Tryd.ntmps8
      go_wp2_with (first | ((with_reducible refine gate_callee (f := 23) rfl ?_); refine goesL_ (some 14) rfl rfl Tryd.func23 (by kernel_rfl) rfl #[.slice A0 l0.length c0] rfl (by (try simp only [List.map_toArray, List.map_cons, List.map_nil]); first | done | rfl | (simp only [List.length_drop, List.length_take]; rfl)) ?_; (with_reducible refine (netlablaw02_given.calls k _ _ l0 t384 _ ?side1 ?side2 A7.out).mono ?_); (case side1 => repeat (first | exact HR0.out | (with_reducible refine Kd.C_alloc ?_ _) | (with_reducible refine Kd.C_drewN ?_ _) | (with_reducible refine Kd.C_drew ?_))); (case side2 => exact HC0.out); rintro e w12 ⟨v385, rfl, ho0, hb⟩; refine ⟨_, rfl, ?_⟩; have n0_ := Aside0.mk (Kd.R_lower ho0 (below_size (by repeat (first | (with_reducible first | exact HB.out | apply below_alloc | apply pw_below_drewN | apply below_drew1) | exact HB.out)))); have n1_ := Aside0.mk (below_step (by repeat (first | (with_reducible first | exact HB.out | apply below_alloc | apply pw_below_drewN | apply below_drew1) | exact HB.out)) hb); clear HB; have HO386 := n0_; have HB := n1_; clear n0_ n1_; (try clear hb); (try clear hb2); (try clear hk); (try clear hi); (try clear ho0); obtain ⟨Ao13, co13, eo13⟩ := Kd.R_slice HO386.out; subst eo13) | ((with_reducible refine gate_callee (f := 20) rfl ?_); refine goesL_ (some 16) rfl rfl Tryd.func20 (by kernel_rfl) rfl #[.slice Ao13 t384.length co13] rfl (by (try simp only [List.map_toArray, List.map_cons, List.map_nil]); first | done | rfl | (simp only [List.length_drop, List.length_take]; rfl)) ?_; (with_reducible refine (strength_Combine.calls k _ _ t384 t387 t388 _ ?side1 ?side2 A8.out).mono ?_); (case side1 => repeat (first | exact (Kd.R_reads' HO386.out).2.2 | (with_reducible refine Kd.C_alloc ?_ _) | (with_reducible refine Kd.C_drewN ?_ _) | (with_reducible refine Kd.C_drew ?_))); (case side2 => exact (Kd.R_reads' HO386.out).2.1); rintro e w14 ⟨rfl, hb⟩; refine ⟨_, rfl, ?_⟩; have n0_ := Aside0.mk (Kd.R_below (by (with_reducible repeat (first | apply Kd.R_alloc | apply Kd.R_drewN | apply Kd.R_drew)); exact HO386.out) hb); have n1_ := Aside0.mk (below_step (by repeat (first | (with_reducible first | exact HB.out | apply below_alloc | apply pw_below_drewN | apply below_drew1) | exact HB.out)) hb); clear HO386; clear HB; have HO386 := n0_; have HB := n1_; clear n0_ n1_; (try clear hb); (try clear hb2); (try clear hk); (try clear hi)) | ((with_reducible refine gate_callee (f := 25) rfl ?_); refine goesL_ (some 18) rfl rfl Tryd.func25 (by kernel_rfl) rfl #[.slice A0 l0.length c0] rfl (by (try simp only [List.map_toArray, List.map_cons, List.map_nil]); first | done | rfl | (simp only [List.length_drop, List.length_take]; rfl)) ?_; (with_reducible refine (netlablaw02_told.calls k _ _ l0 t389 _ ?side1 ?side2 A9.out).mono ?_); (case side1 => repeat (first | exact (Kd.C_below HR0.out HB.out) | (with_reducible refine Kd.C_alloc ?_ _) | (with_reducible refine Kd.C_drewN ?_ _) | (with_reducible refine Kd.C_drew ?_))); (case side2 => exact HC0.out); rintro e w15 ⟨v390, rfl, ho0, hb⟩; refine ⟨_, rfl, ?_⟩; have n0_ := Aside0.mk (Kd.R_below (by (with_reducible repeat (first | apply Kd.R_alloc | apply Kd.R_drewN | apply Kd.R_drew)); exact HO386.out) hb); have n1_ := Aside0.mk (Kd.R_lower ho0 (below_size (by repeat (first | (with_reducible first | exact HB.out | apply below_alloc | apply pw_below_drewN | apply below_drew1) | exact HB.out)))); have n2_ := Aside0.mk (below_step (by repeat (first | (with_reducible first | exact HB.out | apply below_alloc | apply pw_below_drewN | apply below_drew1) | exact HB.out)) hb); clear HO386; clear HB; have HO386 := n0_; have HO391 := n1_; have HB := n2_; clear n0_ n1_ n2_; (try clear hb); (try clear hb2); (try clear hk); (try clear hi); (try clear ho0); obtain ⟨Ao16, co16, eo16⟩ := Kd.R_slice HO391.out; subst eo16) | ((with_reducible refine gate_callee (f := 24) rfl ?_); refine goesL_ (some 19) rfl rfl Tryd.func24 (by kernel_rfl) rfl #[.slice Ao16 t389.length co16] rfl (by (try simp only [List.map_toArray, List.map_cons, List.map_nil]); first | done | rfl | (simp only [List.length_drop, List.length_take]; rfl)) ?_; (with_reducible refine (netlabref02_Combine.calls k _ _ t389 t392 t393 _ ?side1 ?side2 A10.out).mono ?_); (case side1 => repeat (first | exact (Kd.R_reads' HO391.out).2.2 | (with_reducible refine Kd.C_alloc ?_ _) | (with_reducible refine Kd.C_drewN ?_ _) | (with_reducible refine Kd.C_drew ?_))); (case side2 => exact (Kd.R_reads' HO391.out).2.1); rintro e w17 ⟨rfl, hb⟩; refine ⟨_, rfl, ?_⟩; have n0_ := Aside0.mk (Kd.R_below (by (with_reducible repeat (first | apply Kd.R_alloc | apply Kd.R_drewN | apply Kd.R_drew)); exact HO386.out) hb); have n1_ := Aside0.mk (Kd.R_below (by (with_reducible repeat (first | apply Kd.R_alloc | apply Kd.R_drewN | apply Kd.R_drew)); exact HO391.out) hb); have n2_ := Aside0.mk (below_step (by repeat (first | (with_reducible first | exact HB.out | apply below_alloc | apply pw_below_drewN | apply below_drew1) | exact HB.out)) hb); clear HO386; clear HO391; clear HB; have HO386 := n0_; have HO391 := n1_; have HB := n2_; clear n0_ n1_ n2_; (try clear hb); (try clear hb2); (try clear hk); (try clear hi)))
      go_loopg [6] k (fun kq v6 w' => ∃ (x6_1 : Int), v6 = .int .i64 x6_1 ∧ Aside0 (netlablaw02_StrengthMatches.l0 kq l0 a1 t384 x6_1 = some r) ∧ Aside0 (kq ≤ k) ∧ Aside0 (Kd.R k26 26 w' w.heap.size (fun _ => True) (.slice Ao13 t384.length co13) t384) ∧ Aside0 (Below w.heap.size w w'))
      case atStart => exact ⟨(0), (by first | rfl | (simp; done) | (simp [*]; done)), H', ⟨Nat.le_refl _⟩, ⟨by (with_reducible repeat (first | apply Kd.R_alloc | apply Kd.R_drewN | apply Kd.R_drew)); exact HO386.out⟩, ⟨by repeat (first | (with_reducible first | exact HB.out | apply below_alloc | apply pw_below_drewN | apply below_drew1) | exact HB.out)⟩⟩
      case round =>
        clear H'
        try clear c1
        try clear c2
        try clear p2
        try clear c3
        try clear c3b0
        try clear c3b1
        try clear c5
        try clear c8
        try clear c11
        try clear c11b0
        try clear c17
        obtain ⟨x6_1, rfl, HA, HK1, HO_5, HB⟩ := hrel
        cases gk with
        | zero => exact absurd HA.out (by simp [netlablaw02_StrengthMatches.l0])
        | succ k1 =>
          have H := HA.out
          clear HA
          simp only [netlablaw02_StrengthMatches.l0] at H
          by_cases c18 : x6_1 < (l0.length : Int)
          · rw [if_pos c18] at H
            have c18b0 : decide (x6_1 < (l0.length : Int)) = true := decide_eq_true c18
            clear c18
            by_cases c19 : 0 ≤ x6_1
            · rw [if_pos c19] at H
              have c19b0 : decide (0 ≤ x6_1) = true := decide_eq_true c19
              clear c19
              by_cases c20 : x6_1 < (t384.length : Int)
              · rw [if_pos c20] at H
                have c20b0 : decide (x6_1 < (t384.length : Int)) = true := decide_eq_true c20
                clear c20
                by_cases c21 : (!(((rd_T26 t384 x6_1).f0) == ((rd_T35 l0 x6_1).f0)) || (!(((rd_T26 t384 x6_1).f1) == ((rd_T35 l0 x6_1).f1)))) = true
                · rw [if_pos c21] at H
                  have c21b0 : (!(((rd_T26 t384 x6_1).f0) == ((rd_T35 l0 x6_1).f0)) || (!(((rd_T26 t384 x6_1).f1) == ((rd_T35 l0 x6_1).f1)))) = true := c21
                  clear c21
                  exact absurd H (by simp)
                · rw [if_neg c21] at H
                  have c21b0 : (!(((rd_T26 t384 x6_1).f0) == ((rd_T35 l0 x6_1).f0)) || (!(((rd_T26 t384 x6_1).f1) == ((rd_T35 l0 x6_1).f1)))) = false := by simpa using c21
                  clear c21
                  replace H := Option.bind_eq_some_iff.mp H
                  obtain ⟨⟨t400, t401⟩, A220, H⟩ := H
                  replace H : ((netlabref02_Norm.f ((rd_T35 l0 x6_1).f0) ((rd_T35 l0 x6_1).f1)).bind fun bt402 => (if (!(t400 == bt402.1) || (!(t401 == bt402.2))) = true then (none) else ((strength_Valid.f ((rd_T35 l0 x6_1).f0) ((rd_T35 l0 x6_1).f1)).bind fun t404 => ((netlabref02_Norm.f ((rd_T35 l0 x6_1).f0) ((rd_T35 l0 x6_1).f1)).bind fun bt405 => (if (t404 != (bt405.1 == ((rd_T35 l0 x6_1).f0) && (bt405.2 == ((rd_T35 l0 x6_1).f1)))) = true then (none) else ((strength_Read.f ((rd_T35 l0 x6_1).f0) ((rd_T35 l0 x6_1).f1)).bind fun t407 => ((netlabref02_Read.f ((rd_T35 l0 x6_1).f0) ((rd_T35 l0 x6_1).f1)).bind fun t408 => (if t407 = t408 then ((strength_Contains.f ((rd_T35 l0 x6_1).f0) ((rd_T35 l0 x6_1).f1) a1).bind fun t409 => ((netlabref02_Contains.f ((rd_T35 l0 x6_1).f0) ((rd_T35 l0 x6_1).f1) a1).bind fun t410 => (if (t409 != t410) = true then (none) else (netlablaw02_StrengthMatches.l0 k1 l0 a1 t384 (wrap64 (x6_1 + 1)))))) else (none))))))))) = some r := H
                  have A22 := Aside0.mk A220
                  clear A220
                  replace H := Option.bind_eq_some_iff.mp H
                  obtain ⟨⟨t402, t403⟩, A230, H⟩ := H
                  replace H : (if (!(t400 == t402) || (!(t401 == t403))) = true then (none) else ((strength_Valid.f ((rd_T35 l0 x6_1).f0) ((rd_T35 l0 x6_1).f1)).bind fun t404 => ((netlabref02_Norm.f ((rd_T35 l0 x6_1).f0) ((rd_T35 l0 x6_1).f1)).bind fun bt405 => (if (t404 != (bt405.1 == ((rd_T35 l0 x6_1).f0) && (bt405.2 == ((rd_T35 l0 x6_1).f1)))) = true then (none) else ((strength_Read.f ((rd_T35 l0 x6_1).f0) ((rd_T35 l0 x6_1).f1)).bind fun t407 => ((netlabref02_Read.f ((rd_T35 l0 x6_1).f0) ((rd_T35 l0 x6_1).f1)).bind fun t408 => (if t407 = t408 then ((strength_Contains.f ((rd_T35 l0 x6_1).f0) ((rd_T35 l0 x6_1).f1) a1).bind fun t409 => ((netlabref02_Contains.f ((rd_T35 l0 x6_1).f0) ((rd_T35 l0 x6_1).f1) a1).bind fun t410 => (if (t409 != t410) = true then (none) else (netlablaw02_StrengthMatches.l0 k1 l0 a1 t384 (wrap64 (x6_1 + 1)))))) else (none)))))))) = some r := H
                  have A23 := Aside0.mk A230
                  clear A230
                  by_cases c24 : (!(t400 == t402) || (!(t401 == t403))) = true
                  · rw [if_pos c24] at H
                    have c24b0 : (!(t400 == t402) || (!(t401 == t403))) = true := c24
                    clear c24
                    exact absurd H (by simp)
                  · rw [if_neg c24] at H
                    have c24b0 : (!(t400 == t402) || (!(t401 == t403))) = false := by simpa using c24
                    clear c24
                    replace H := Option.bind_eq_some_iff.mp H
                    obtain ⟨t404, A250, H⟩ := H
                    replace H : ((netlabref02_Norm.f ((rd_T35 l0 x6_1).f0) ((rd_T35 l0 x6_1).f1)).bind fun bt405 => (if (t404 != (bt405.1 == ((rd_T35 l0 x6_1).f0) && (bt405.2 == ((rd_T35 l0 x6_1).f1)))) = true then (none) else ((strength_Read.f ((rd_T35 l0 x6_1).f0) ((rd_T35 l0 x6_1).f1)).bind fun t407 => ((netlabref02_Read.f ((rd_T35 l0 x6_1).f0) ((rd_T35 l0 x6_1).f1)).bind fun t408 => (if t407 = t408 then ((strength_Contains.f ((rd_T35 l0 x6_1).f0) ((rd_T35 l0 x6_1).f1) a1).bind fun t409 => ((netlabref02_Contains.f ((rd_T35 l0 x6_1).f0) ((rd_T35 l0 x6_1).f1) a1).bind fun t410 => (if (t409 != t410) = true then (none) else (netlablaw02_StrengthMatches.l0 k1 l0 a1 t384 (wrap64 (x6_1 + 1)))))) else (none)))))) = some r := H
                    have A25 := Aside0.mk A250
                    clear A250
                    replace H := Option.bind_eq_some_iff.mp H
                    obtain ⟨⟨t405, t406⟩, A260, H⟩ := H
                    replace H : (if (t404 != (t405 == ((rd_T35 l0 x6_1).f0) && (t406 == ((rd_T35 l0 x6_1).f1)))) = true then (none) else ((strength_Read.f ((rd_T35 l0 x6_1).f0) ((rd_T35 l0 x6_1).f1)).bind fun t407 => ((netlabref02_Read.f ((rd_T35 l0 x6_1).f0) ((rd_T35 l0 x6_1).f1)).bind fun t408 => (if t407 = t408 then ((strength_Contains.f ((rd_T35 l0 x6_1).f0) ((rd_T35 l0 x6_1).f1) a1).bind fun t409 => ((netlabref02_Contains.f ((rd_T35 l0 x6_1).f0) ((rd_T35 l0 x6_1).f1) a1).bind fun t410 => (if (t409 != t410) = true then (none) else (netlablaw02_StrengthMatches.l0 k1 l0 a1 t384 (wrap64 (x6_1 + 1)))))) else (none))))) = some r := H
                    have A26 := Aside0.mk A260
                    clear A260
                    by_cases c27 : (t404 != (t405 == ((rd_T35 l0 x6_1).f0) && (t406 == ((rd_T35 l0 x6_1).f1)))) = true
                    · rw [if_pos c27] at H
                      have c27b0 : (t404 != (t405 == ((rd_T35 l0 x6_1).f0) && (t406 == ((rd_T35 l0 x6_1).f1)))) = true := c27
                      (try (have c27b1 : decide (t404 = (t405 == ((rd_T35 l0 x6_1).f0) && (t406 == ((rd_T35 l0 x6_1).f1)))) = false := by simpa using c27))
                      (try (have c27b2 : (t404 == (t405 == ((rd_T35 l0 x6_1).f0) && (t406 == ((rd_T35 l0 x6_1).f1)))) = false := by simpa using c27))
                      (try (have c27b3 : ¬ (t404 = (t405 == ((rd_T35 l0 x6_1).f0) && (t406 == ((rd_T35 l0 x6_1).f1)))) := by simpa using c27))
                      clear c27
                      exact absurd H (by simp)
                    · rw [if_neg c27] at H
                      have c27b0 : (t404 != (t405 == ((rd_T35 l0 x6_1).f0) && (t406 == ((rd_T35 l0 x6_1).f1)))) = false := by simpa using c27
                      (try (have c27b1 : decide (t404 = (t405 == ((rd_T35 l0 x6_1).f0) && (t406 == ((rd_T35 l0 x6_1).f1)))) = true := by simpa using c27))
                      (try (have c27b2 : (t404 == (t405 == ((rd_T35 l0 x6_1).f0) && (t406 == ((rd_T35 l0 x6_1).f1)))) = true := by simpa using c27))
                      clear c27
                      replace H := Option.bind_eq_some_iff.mp H
                      obtain ⟨t407, A280, H⟩ := H
                      replace H : ((netlabref02_Read.f ((rd_T35 l0 x6_1).f0) ((rd_T35 l0 x6_1).f1)).bind fun t408 => (if t407 = t408 then ((strength_Contains.f ((rd_T35 l0 x6_1).f0) ((rd_T35 l0 x6_1).f1) a1).bind fun t409 => ((netlabref02_Contains.f ((rd_T35 l0 x6_1).f0) ((rd_T35 l0 x6_1).f1) a1).bind fun t410 => (if (t409 != t410) = true then (none) else (netlablaw02_StrengthMatches.l0 k1 l0 a1 t384 (wrap64 (x6_1 + 1)))))) else (none))) = some r := H
                      have A28 := Aside0.mk A280
                      clear A280
                      replace H := Option.bind_eq_some_iff.mp H
                      obtain ⟨t408, A290, H⟩ := H
                      replace H : (if t407 = t408 then ((strength_Contains.f ((rd_T35 l0 x6_1).f0) ((rd_T35 l0 x6_1).f1) a1).bind fun t409 => ((netlabref02_Contains.f ((rd_T35 l0 x6_1).f0) ((rd_T35 l0 x6_1).f1) a1).bind fun t410 => (if (t409 != t410) = true then (none) else (netlablaw02_StrengthMatches.l0 k1 l0 a1 t384 (wrap64 (x6_1 + 1)))))) else (none)) = some r := H
                      have A29 := Aside0.mk A290
                      clear A290
                      by_cases c30 : t407 = t408
                      · rw [if_pos c30] at H
                        have c30b0 : (t407 == t408) = true := beq_iff_eq.mpr c30
                        have c30b1 : (t407 != t408) = false := bne_eq_false_iff_eq.mpr c30
                        clear c30
                        replace H := Option.bind_eq_some_iff.mp H
                        obtain ⟨t409, A310, H⟩ := H
                        replace H : ((netlabref02_Contains.f ((rd_T35 l0 x6_1).f0) ((rd_T35 l0 x6_1).f1) a1).bind fun t410 => (if (t409 != t410) = true then (none) else (netlablaw02_StrengthMatches.l0 k1 l0 a1 t384 (wrap64 (x6_1 + 1))))) = some r := H
                        have A31 := Aside0.mk A310
                        clear A310
                        replace H := Option.bind_eq_some_iff.mp H
                        obtain ⟨t410, A320, H⟩ := H
                        replace H : (if (t409 != t410) = true then (none) else (netlablaw02_StrengthMatches.l0 k1 l0 a1 t384 (wrap64 (x6_1 + 1)))) = some r := H
                        have A32 := Aside0.mk A320
                        clear A320
                        by_cases c33 : (t409 != t410) = true
                        · rw [if_pos c33] at H
                          exact absurd H (by simp)
                        · rw [if_neg c33] at H
                          have c33b0 : (t409 != t410) = false := by simpa using c33
                          (try (have c33b1 : decide (t409 = t410) = true := by simpa using c33))
                          (try (have c33b2 : (t409 == t410) = true := by simpa using c33))
                          clear c33
                          have H' := Aside0.mk H
                          clear H
                          try go_wp2
                          have n0_ := Aside0.mk (Kd.R_drew HO_5.out)
                          have n1_ := Aside0.mk (below_drew1 HB.out)
                          clear HO_5
                          clear HB
                          have HO_5 := n0_
                          have HB := n1_
                          clear n0_ n1_
                          have p395 : 0 ≤ (x6_1 : Int) := of_decide_eq_true (by first | (with_reducible assumption) | assumption)
                          have q395 : x6_1 < (l0.length : Int) := of_decide_eq_true (by first | (with_reducible assumption) | assumption)
                          obtain ⟨ad395, e395, hx395_0, hx395_1⟩ := at_T35 HR0.out x6_1 p395 q395
                          have hw395_1 := hx395_1
                          have hw395_0 := hx395_0
                          cases e395
                          replace hx395_0 := (HB.out.cell (World.block_lt_of_cell? w _ hx395_0)).trans hx395_0
                          replace hx395_1 := (HB.out.cell (World.block_lt_of_cell? w _ hx395_1)).trans hx395_1
                          replace p395 := eq_true p395
                          replace q395 := eq_true q395
                          have p396 : 0 ≤ (x6_1 : Int) := of_decide_eq_true (by first | (with_reducible assumption) | assumption)
                          have q396 : x6_1 < (l0.length : Int) := of_decide_eq_true (by first | (with_reducible assumption) | assumption)
                          obtain ⟨ad396, e396, hx396_0, hx396_1⟩ := at_T35 HR0.out x6_1 p396 q396
                          have hw396_1 := hx396_1
                          have hw396_0 := hx396_0
                          obtain rfl : ad395 = ad396 := (by injection e396)
                          replace hx396_0 := (HB.out.cell (World.block_lt_of_cell? w _ hx396_0)).trans hx396_0
                          replace hx396_1 := (HB.out.cell (World.block_lt_of_cell? w _ hx396_1)).trans hx396_1
                          replace p396 := eq_true p396
                          replace q396 := eq_true q396
                          refine start_ (n := 12) (S := fun w' => w'.cell? (ad395.add ((x6_1).toNat * 2)) = some (.int .i8 ((rd_T35 l0 x6_1).f0)) ∧ w'.cell? ⟨(ad395.add ((x6_1).toNat * 2)).block, (ad395.add ((x6_1).toNat * 2)).off + 1, none⟩ = some (.int .i8 ((rd_T35 l0 x6_1).f1)) ∧ w'.cell? (ad395.add ((x6_1).toNat * 2)) = some (.int .i8 ((rd_T35 l0 x6_1).f0)) ∧ w'.cell? ⟨(ad395.add ((x6_1).toNat * 2)).block, (ad395.add ((x6_1).toNat * 2)).off + 1, none⟩ = some (.int .i8 ((rd_T35 l0 x6_1).f1))) (ds := []) #[false, false, false, false, false, false, false, false, false, false, false, false] (by kernel_rfl) rfl rfl ⟨((HB.out.cell (World.block_lt_of_cell? w _ hw395_0)).trans hw395_0), ((HB.out.cell (World.block_lt_of_cell? w _ hw395_1)).trans hw395_1), ((HB.out.cell (World.block_lt_of_cell? w _ hw396_0)).trans hw396_0), ((HB.out.cell (World.block_lt_of_cell? w _ hw396_1)).trans hw396_1)⟩ (fun hHeld => ?_); refine with_tabW netlablaw02_StrengthMatches.tab9 netlablaw02_StrengthMatches.bits9 (fun HT_ HW_ => ?_)
                          generalize wr.drew = w34 at HO_5 HB hx395_0 hx395_1 hx396_0 hx396_1 hHeld ⊢
                          refine pure_ (i := 0) (N := some 27) (v := ?_) (a' := ?_) #[true, false, false, false, false, false, false, false, false, false, false, false] rfl rfl (any_of HT_.out (by kernel_rfl)) (fun _ _ _ h => h) (Or.inl ⟨by rfl, ?_⟩) ?_ ?_
                          rotate_left
                          · intro w'
                            go_simp
                            with_reducible rfl
                          rotate_left
                          · simp only [Act.put, List.setIfInBounds_toArray, List.set_cons_zero, List.set_cons_succ, i64_w, i32_w]
                            rfl
                          refine pure_ (i := 1) (N := some 28) (v := ?_) (a' := ?_) #[true, true, false, false, false, false, false, false, false, false, false, false] rfl rfl (any_of HT_.out (by kernel_rfl)) (fun _ _ _ h => h) (Or.inl ⟨by rfl, ?_⟩) ?_ ?_
                          rotate_left
                          · intro w'
                            go_simp
                            with_reducible rfl
                          rotate_left
                          · simp only [Act.put, List.setIfInBounds_toArray, List.set_cons_zero, List.set_cons_succ, i64_w, i32_w]
                            rfl
                          refine pure_ (i := 2) (N := some 29) (v := ?_) (a' := ?_) #[true, true, true, false, false, false, false, false, false, false, false, false] rfl rfl (any_of HT_.out (by kernel_rfl)) (fun _ _ _ h => h) (Or.inl ⟨by rfl, ?_⟩) ?_ ?_
                          rotate_left
                          · intro w'
                            go_simp
                            with_reducible rfl
                          rotate_left
                          · simp only [Act.put, List.setIfInBounds_toArray, List.set_cons_zero, List.set_cons_succ, i64_w, i32_w]
                            rfl
                          refine pure_ (i := 4) (N := some 31) (v := ?_) (a' := ?_) #[true, true, true, false, true, false, false, false, false, false, false, false] rfl rfl (any_of HT_.out (by kernel_rfl)) (fun _ _ _ h => h) (Or.inl ⟨by rfl, ?_⟩) ?_ ?_
                          rotate_left
                          · intro w'
                            go_simp
                            with_reducible rfl
                          rotate_left
                          · simp only [Act.put, List.setIfInBounds_toArray, List.set_cons_zero, List.set_cons_succ, i64_w, i32_w]
                            rfl
                          refine pure_ (i := 5) (N := some 32) (v := ?_) (a' := ?_) #[true, true, true, false, true, true, false, false, false, false, false, false] rfl rfl (any_of HT_.out (by kernel_rfl)) (fun _ _ _ h => h) (Or.inl ⟨by rfl, ?_⟩) ?_ ?_
                          rotate_left
                          · intro w'
                            go_simp
                            with_reducible rfl
                          rotate_left
                          · simp only [Act.put, List.setIfInBounds_toArray, List.set_cons_zero, List.set_cons_succ, i64_w, i32_w]
                            rfl
                          refine pure_ (i := 6) (N := some 33) (v := ?_) (a' := ?_) #[true, true, true, false, true, true, true, false, false, false, false, false] rfl rfl (any_of HT_.out (by kernel_rfl)) (fun _ _ _ h => h) (Or.inl ⟨by rfl, ?_⟩) ?_ ?_
                          rotate_left
                          · intro w'
                            go_simp
                            with_reducible rfl
                          rotate_left
                          · simp only [Act.put, List.setIfInBounds_toArray, List.set_cons_zero, List.set_cons_succ, i64_w, i32_w]
                            rfl
                          refine take_ (i := 3) (N := some 30) (v := ?_) (a' := ?_) #[true, true, true, true, true, true, true, false, false, false, false, false] rfl rfl (take_ofW HT_.out HW_.out (by kernel_rfl)) (fun _ _ _ h => h) (Or.inl ⟨by rfl, ?_⟩) hHeld ?_ ?_
                          rotate_left
                          · rintro w' ⟨s0, s1, s2, s3⟩
                            go_simp
                            with_reducible rfl
                          rotate_left
                          · simp only [Act.put, List.setIfInBounds_toArray, List.set_cons_zero, List.set_cons_succ, i64_w, i32_w]
                            rfl
                          refine take_ (i := 7) (N := some 34) (v := ?_) (a' := ?_) #[true, true, true, true, true, true, true, true, false, false, false, false] rfl rfl (take_ofW HT_.out HW_.out (by kernel_rfl)) (fun _ _ _ h => h) (Or.inl ⟨by rfl, ?_⟩) hHeld ?_ ?_
                          rotate_left
                          · rintro w' ⟨s0, s1, s2, s3⟩
                            go_simp
                            with_reducible rfl
                          rotate_left
                          · simp only [Act.put, List.setIfInBounds_toArray, List.set_cons_zero, List.set_cons_succ, i64_w, i32_w]
                            rfl
                          refine join_ (σ := Nat × Nat) 2 #[true, true, true, true, true, true, true, true, true, true, false, false] (fun s_ => [(7, .pointer (some ⟨s_.1, 0, none⟩)), (8, .pointer (some ⟨s_.2, 0, none⟩))]) (fun s_ w' => (w'.cell? (ad395.add ((x6_1).toNat * 2)) = some (.int .i8 ((rd_T35 l0 x6_1).f0)) ∧ w'.cell? ⟨(ad395.add ((x6_1).toNat * 2)).block, (ad395.add ((x6_1).toNat * 2)).off + 1, none⟩ = some (.int .i8 ((rd_T35 l0 x6_1).f1)) ∧ w'.cell? (ad395.add ((x6_1).toNat * 2)) = some (.int .i8 ((rd_T35 l0 x6_1).f0)) ∧ w'.cell? ⟨(ad395.add ((x6_1).toNat * 2)).block, (ad395.add ((x6_1).toNat * 2)).off + 1, none⟩ = some (.int .i8 ((rd_T35 l0 x6_1).f1))) ∧ (Kd.R k26 26 w' w.heap.size (fun k_ => k_ ≠ s_.1) (.slice Ao13 t384.length co13) t384) ∧ (w'.heap[s_.1]? = some (.cells #[.int .i8 0, .int .i8 0] 26 (0, 0))) ∧ (w'.heap[s_.2]? = some (.cells #[.int .i8 0, .int .i8 0] 25 (0, 0))) ∧ (w.heap.size ≤ s_.1) ∧ (w.heap.size ≤ s_.1) ∧ (s_.2 ≠ s_.1) ∧ (s_.1 ≠ s_.2) ∧ (w.heap.size ≤ s_.2) ∧ (w.heap.size ≤ s_.2) ∧ (Below w.heap.size w w')) ?_ ?_
                          rotate_left
                          · intro hCont
                            refine two_ (i := 8) (j := 9) (Ni := some 7) (Nj := some 8) #[true, true, true, true, true, true, true, true, true, false, false, false] #[true, true, true, true, true, true, true, true, false, true, false, false] rfl rfl rfl rfl (two_of HT_.out (by kernel_rfl)) (by decide) (by decide) (fun K hK => ?_) (fun K hK => ?_)
                            · skip
                              refine box_step ?hg (N := 7) ?hd (cs := #[.int .i8 0, .int .i8 0]) (t := 26) ?hr ?_; (case hd => rfl); (case hg => rfl); (case hr => first | (go_simp; done) | (go_simp; rfl))
                              intro gb397 hg w35 hbox hb
                              have n0_ := Aside0.mk (Kd.R_below (Kd.R_elderB (by (with_reducible repeat (first | apply Kd.R_alloc | apply Kd.R_drewN | apply Kd.R_drew)); exact HO_5.out) gb397 (Nat.le_of_eq hg.symm)) hb)
                              have n1_ := Aside0.mk (below_step (by repeat (first | (with_reducible first | exact HB.out | apply below_alloc | apply pw_below_drewN | apply below_drew1) | exact HB.out)) hb)
                              have n2_ := Aside0.mk (hbox)
                              have n3_ := Aside0.mk ((by rw [hg]; exact (below_size (by repeat (first | (with_reducible first | exact HB.out | apply below_alloc | apply pw_below_drewN | apply below_drew1) | exact HB.out))) : w.heap.size ≤ gb397))
                              have n4_ := Aside0.mk ((by rw [hg]; exact (below_size (by repeat (first | (with_reducible first | exact HB.out | apply below_alloc | apply pw_below_drewN | apply below_drew1) | exact HB.out))) : w.heap.size ≤ gb397))
                              clear HO_5
                              clear HB
                              have HO_5 := n0_
                              have HB := n1_
                              have BK397 := n2_
                              have GW397 := n3_
                              have GE397 := n4_
                              clear n0_ n1_ n2_ n3_ n4_
                              clear hb hbox hg
                              refine hK.out _ _ ⟨((HB.out.cell (World.block_lt_of_cell? w _ hw395_0)).trans hw395_0), ((HB.out.cell (World.block_lt_of_cell? w _ hw395_1)).trans hw395_1), ((HB.out.cell (World.block_lt_of_cell? w _ hw396_0)).trans hw396_0), ((HB.out.cell (World.block_lt_of_cell? w _ hw396_1)).trans hw396_1)⟩ (fun hHeld => ?_)
                              clear hK K
                              refine norm_ (a' := ?_) ?_ ?_
                              rotate_left
                              · show Act.put _ (some 7) _ = _
                                simp only [Act.put, List.setIfInBounds_toArray, List.set_cons_zero, List.set_cons_succ, i64_w, i32_w]
                                rfl
                              refine one_ (i := 9) (N := some 8) #[true, true, true, true, true, true, true, true, true, true, false, false] rfl rfl (one_of HT_.out (by kernel_rfl)) (by decide) (fun K hK => ?_)
                              refine box_step ?hg (N := 8) ?hd (cs := #[.int .i8 0, .int .i8 0]) (t := 25) ?hr ?_; (case hd => rfl); (case hg => rfl); (case hr => first | (go_simp; done) | (go_simp; rfl))
                              intro gb398 hg w36 hbox hb
                              have n0_ := Aside0.mk (Kd.R_below (by (with_reducible repeat (first | apply Kd.R_alloc | apply Kd.R_drewN | apply Kd.R_drew)); exact HO_5.out) hb)
                              have n1_ := Aside0.mk (blk_below (g := gb397) (o := .cells #[.int .i8 0, .int .i8 0] 26 (0, 0)) (by (with_reducible repeat (first | refine blk_drewN ?_ _ | refine blk_drew ?_ | refine blk_alloc ?_ _)); exact BK397.out) hb)
                              have n2_ := Aside0.mk (below_step (by repeat (first | (with_reducible first | exact HB.out | apply below_alloc | apply pw_below_drewN | apply below_drew1 | refine below_set ?_ GE397.out) | exact HB.out)) hb)
                              have n3_ := Aside0.mk (hbox)
                              have n4_ := Aside0.mk ((by rw [hg]; exact (below_size (by repeat (first | (with_reducible first | exact HB.out | apply below_alloc | apply pw_below_drewN | apply below_drew1 | refine below_set ?_ GE397.out) | exact HB.out))) : w.heap.size ≤ gb398))
                              have n5_ := Aside0.mk ((by rw [hg]; exact (below_size (by repeat (first | (with_reducible first | exact HB.out | apply below_alloc | apply pw_below_drewN | apply below_drew1 | refine below_set ?_ GE397.out) | exact HB.out))) : w.heap.size ≤ gb398))
                              have n6_ := Aside0.mk ((by rw [hg]; exact Nat.ne_of_lt (blk_lt (g := gb397) (o := .cells #[.int .i8 0, .int .i8 0] 26 (0, 0)) (by (with_reducible repeat (first | refine blk_drewN ?_ _ | refine blk_drew ?_ | refine blk_alloc ?_ _)); exact BK397.out)) : gb397 ≠ gb398))
                              have n7_ := Aside0.mk ((by rw [hg]; exact Nat.ne_of_gt (blk_lt (g := gb397) (o := .cells #[.int .i8 0, .int .i8 0] 26 (0, 0)) (by (with_reducible repeat (first | refine blk_drewN ?_ _ | refine blk_drew ?_ | refine blk_alloc ?_ _)); exact BK397.out)) : gb398 ≠ gb397))
                              clear HO_5
                              clear BK397
                              clear HB
                              have HO_5 := n0_
                              have BK397 := n1_
                              have HB := n2_
                              have BK398 := n3_
                              have GW398 := n4_
                              have GE398 := n5_
                              have NB397_398 := n6_
                              have NB398_397 := n7_
                              clear n0_ n1_ n2_ n3_ n4_ n5_ n6_ n7_
                              clear hb hbox hg
                              refine hK.out _ _ ⟨((HB.out.cell (World.block_lt_of_cell? w _ hw395_0)).trans hw395_0), ((HB.out.cell (World.block_lt_of_cell? w _ hw395_1)).trans hw395_1), ((HB.out.cell (World.block_lt_of_cell? w _ hw396_0)).trans hw396_0), ((HB.out.cell (World.block_lt_of_cell? w _ hw396_1)).trans hw396_1)⟩ (fun hHeld => ?_)
                              clear hK K
                              refine norm_ (a' := ?_) ?_ ?_
                              rotate_left
                              · show Act.put _ (some 8) _ = _
                                simp only [Act.put, List.setIfInBounds_toArray, List.set_cons_zero, List.set_cons_succ, i64_w, i32_w]
                                rfl
                              exact norm_ (by simp only [putAll, Act.put, List.setIfInBounds_toArray, List.set_cons_zero, List.set_cons_succ]) (hCont (gb397, gb398) _ ⟨hHeld, (by (with_reducible repeat (first | apply Kd.R_alloc | apply Kd.R_drewN | apply Kd.R_drew)); exact Kd.R_mono HO_5.out (fun _ hk => hk.2)), (by (with_reducible repeat (first | refine blk_drewN ?_ _ | refine blk_drew ?_ | refine blk_alloc ?_ _)); exact BK397.out), (by (with_reducible repeat (first | refine blk_drewN ?_ _ | refine blk_drew ?_ | refine blk_alloc ?_ _)); exact BK398.out), GW397.out, GE397.out, NB398_397.out, NB397_398.out, GW398.out, GE398.out, (by repeat (first | (with_reducible first | exact HB.out | apply below_alloc | apply pw_below_drewN | apply below_drew1 | refine below_set ?_ GE397.out | refine below_set ?_ GE398.out) | exact HB.out))⟩)
                            · skip
                              refine box_step ?hg (N := 8) ?hd (cs := #[.int .i8 0, .int .i8 0]) (t := 25) ?hr ?_; (case hd => rfl); (case hg => rfl); (case hr => first | (go_simp; done) | (go_simp; rfl))
                              intro gb398 hg w35 hbox hb
                              have n0_ := Aside0.mk (Kd.R_below (by (with_reducible repeat (first | apply Kd.R_alloc | apply Kd.R_drewN | apply Kd.R_drew)); exact HO_5.out) hb)
                              have n1_ := Aside0.mk (below_step (by repeat (first | (with_reducible first | exact HB.out | apply below_alloc | apply pw_below_drewN | apply below_drew1) | exact HB.out)) hb)
                              have n2_ := Aside0.mk (hbox)
                              have n3_ := Aside0.mk ((by rw [hg]; exact (below_size (by repeat (first | (with_reducible first | exact HB.out | apply below_alloc | apply pw_below_drewN | apply below_drew1) | exact HB.out))) : w.heap.size ≤ gb398))
                              have n4_ := Aside0.mk ((by rw [hg]; exact (below_size (by repeat (first | (with_reducible first | exact HB.out | apply below_alloc | apply pw_below_drewN | apply below_drew1) | exact HB.out))) : w.heap.size ≤ gb398))
                              clear HO_5
                              clear HB
                              have HO_5 := n0_
                              have HB := n1_
                              have BK398 := n2_
                              have GW398 := n3_
                              have GE398 := n4_
                              clear n0_ n1_ n2_ n3_ n4_
                              clear hb hbox hg
                              refine hK.out _ _ ⟨((HB.out.cell (World.block_lt_of_cell? w _ hw395_0)).trans hw395_0), ((HB.out.cell (World.block_lt_of_cell? w _ hw395_1)).trans hw395_1), ((HB.out.cell (World.block_lt_of_cell? w _ hw396_0)).trans hw396_0), ((HB.out.cell (World.block_lt_of_cell? w _ hw396_1)).trans hw396_1)⟩ (fun hHeld => ?_)
                              clear hK K
                              refine norm_ (a' := ?_) ?_ ?_
                              rotate_left
                              · show Act.put _ (some 8) _ = _
                                simp only [Act.put, List.setIfInBounds_toArray, List.set_cons_zero, List.set_cons_succ, i64_w, i32_w]
                                rfl
                              refine one_ (i := 8) (N := some 7) #[true, true, true, true, true, true, true, true, true, true, false, false] rfl rfl (one_of HT_.out (by kernel_rfl)) (by decide) (fun K hK => ?_)
                              refine box_step ?hg (N := 7) ?hd (cs := #[.int .i8 0, .int .i8 0]) (t := 26) ?hr ?_; (case hd => rfl); (case hg => rfl); (case hr => first | (go_simp; done) | (go_simp; rfl))
                              intro gb397 hg w36 hbox hb
                              have n0_ := Aside0.mk (Kd.R_below (Kd.R_elderB (by (with_reducible repeat (first | apply Kd.R_alloc | apply Kd.R_drewN | apply Kd.R_drew)); exact HO_5.out) gb397 (Nat.le_of_eq hg.symm)) hb)
                              have n1_ := Aside0.mk (blk_below (g := gb398) (o := .cells #[.int .i8 0, .int .i8 0] 25 (0, 0)) (by (with_reducible repeat (first | refine blk_drewN ?_ _ | refine blk_drew ?_ | refine blk_alloc ?_ _)); exact BK398.out) hb)
                              have n2_ := Aside0.mk (below_step (by repeat (first | (with_reducible first | exact HB.out | apply below_alloc | apply pw_below_drewN | apply below_drew1 | refine below_set ?_ GE398.out) | exact HB.out)) hb)
                              have n3_ := Aside0.mk (hbox)
                              have n4_ := Aside0.mk ((by rw [hg]; exact (below_size (by repeat (first | (with_reducible first | exact HB.out | apply below_alloc | apply pw_below_drewN | apply below_drew1 | refine below_set ?_ GE398.out) | exact HB.out))) : w.heap.size ≤ gb397))
                              have n5_ := Aside0.mk ((by rw [hg]; exact (below_size (by repeat (first | (with_reducible first | exact HB.out | apply below_alloc | apply pw_below_drewN | apply below_drew1 | refine below_set ?_ GE398.out) | exact HB.out))) : w.heap.size ≤ gb397))
                              have n6_ := Aside0.mk ((by rw [hg]; exact Nat.ne_of_lt (blk_lt (g := gb398) (o := .cells #[.int .i8 0, .int .i8 0] 25 (0, 0)) (by (with_reducible repeat (first | refine blk_drewN ?_ _ | refine blk_drew ?_ | refine blk_alloc ?_ _)); exact BK398.out)) : gb398 ≠ gb397))
                              have n7_ := Aside0.mk ((by rw [hg]; exact Nat.ne_of_gt (blk_lt (g := gb398) (o := .cells #[.int .i8 0, .int .i8 0] 25 (0, 0)) (by (with_reducible repeat (first | refine blk_drewN ?_ _ | refine blk_drew ?_ | refine blk_alloc ?_ _)); exact BK398.out)) : gb397 ≠ gb398))
                              clear HO_5
                              clear BK398
                              clear HB
                              have HO_5 := n0_
                              have BK398 := n1_
                              have HB := n2_
                              have BK397 := n3_
                              have GW397 := n4_
                              have GE397 := n5_
                              have NB398_397 := n6_
                              have NB397_398 := n7_
                              clear n0_ n1_ n2_ n3_ n4_ n5_ n6_ n7_
                              clear hb hbox hg
                              refine hK.out _ _ ⟨((HB.out.cell (World.block_lt_of_cell? w _ hw395_0)).trans hw395_0), ((HB.out.cell (World.block_lt_of_cell? w _ hw395_1)).trans hw395_1), ((HB.out.cell (World.block_lt_of_cell? w _ hw396_0)).trans hw396_0), ((HB.out.cell (World.block_lt_of_cell? w _ hw396_1)).trans hw396_1)⟩ (fun hHeld => ?_)
                              clear hK K
                              refine norm_ (a' := ?_) ?_ ?_
                              rotate_left
                              · show Act.put _ (some 7) _ = _
                                simp only [Act.put, List.setIfInBounds_toArray, List.set_cons_zero, List.set_cons_succ, i64_w, i32_w]
                                rfl
                              exact norm_ (by simp only [putAll, Act.put, List.setIfInBounds_toArray, List.set_cons_zero, List.set_cons_succ]) (hCont (gb397, gb398) _ ⟨hHeld, (by (with_reducible repeat (first | apply Kd.R_alloc | apply Kd.R_drewN | apply Kd.R_drew)); exact Kd.R_mono HO_5.out (fun _ hk => hk.2)), (by (with_reducible repeat (first | refine blk_drewN ?_ _ | refine blk_drew ?_ | refine blk_alloc ?_ _)); exact BK397.out), (by (with_reducible repeat (first | refine blk_drewN ?_ _ | refine blk_drew ?_ | refine blk_alloc ?_ _)); exact BK398.out), GW397.out, GE397.out, NB398_397.out, NB397_398.out, GW398.out, GE398.out, (by repeat (first | (with_reducible first | exact HB.out | apply below_alloc | apply pw_below_drewN | apply below_drew1 | refine below_set ?_ GE398.out | refine below_set ?_ GE397.out) | exact HB.out))⟩)
                          rintro ⟨gb397, gb398⟩ w37 ⟨hS_, h0_, h1_, h2_, h3_, h4_, h5_, h6_, h7_, h8_, h9_⟩
                          have n0_ : Aside0 (Kd.R k26 26 w37 w.heap.size (fun k_ => k_ ≠ gb397) (.slice Ao13 t384.length co13) t384) := ⟨h0_⟩
                          have n1_ : Aside0 (w37.heap[gb397]? = some (.cells #[.int .i8 0, .int .i8 0] 26 (0, 0))) := ⟨h1_⟩
                          have n2_ : Aside0 (w37.heap[gb398]? = some (.cells #[.int .i8 0, .int .i8 0] 25 (0, 0))) := ⟨h2_⟩
                          have n3_ : Aside0 (w.heap.size ≤ gb397) := ⟨h3_⟩
                          have n4_ : Aside0 (w.heap.size ≤ gb397) := ⟨h4_⟩
                          have n5_ : Aside0 (gb398 ≠ gb397) := ⟨h5_⟩
                          have n6_ : Aside0 (gb397 ≠ gb398) := ⟨h6_⟩
                          have n7_ : Aside0 (w.heap.size ≤ gb398) := ⟨h7_⟩
                          have n8_ : Aside0 (w.heap.size ≤ gb398) := ⟨h8_⟩
                          have n9_ : Aside0 (Below w.heap.size w w37) := ⟨h9_⟩
                          clear HO_5
                          clear HB
                          clear h0_ h1_ h2_ h3_ h4_ h5_ h6_ h7_ h8_ h9_
                          have HO_5 := n0_
                          have BK397 := n1_
                          have BK398 := n2_
                          have GW397 := n3_
                          have GE397 := n4_
                          have NB398_397 := n5_
                          have NB397_398 := n6_
                          have GW398 := n7_
                          have GE398 := n8_
                          have HB := n9_
                          clear n0_ n1_ n2_ n3_ n4_ n5_ n6_ n7_ n8_ n9_
                          have hHeld : w37.cell? (ad395.add ((x6_1).toNat * 2)) = some (.int .i8 ((rd_T35 l0 x6_1).f0)) ∧ w37.cell? ⟨(ad395.add ((x6_1).toNat * 2)).block, (ad395.add ((x6_1).toNat * 2)).off + 1, none⟩ = some (.int .i8 ((rd_T35 l0 x6_1).f1)) ∧ w37.cell? (ad395.add ((x6_1).toNat * 2)) = some (.int .i8 ((rd_T35 l0 x6_1).f0)) ∧ w37.cell? ⟨(ad395.add ((x6_1).toNat * 2)).block, (ad395.add ((x6_1).toNat * 2)).off + 1, none⟩ = some (.int .i8 ((rd_T35 l0 x6_1).f1)) := hS_
                          refine norm_ (a' := ?_) ?_ ?_
                          rotate_left
                          · simp only [putAll, Act.put, List.setIfInBounds_toArray, List.set_cons_zero, List.set_cons_succ]
                            rfl
                          refine one_ (i := 10) (N := none) #[true, true, true, true, true, true, true, true, true, true, true, false] rfl rfl (one_of HT_.out (by kernel_rfl)) (by decide) (fun K hK => ?_)
                          have hs38 : w37.cell? ⟨gb397, 0, none⟩ = some (.int .i8 0) := (blk_cell BK397.out 0).trans rfl
                          have hfs38 := blk_frozen BK397.out 0
                          have hns38_1 := NB398_397.out
                          have hms38_1 := NB397_398.out
                          have hs39 : w37.cell? ⟨gb397, 1, none⟩ = some (.int .i8 0) := (blk_cell BK397.out 1).trans rfl
                          have hfs39 := blk_frozen BK397.out 1
                          have hns39_1 := NB398_397.out
                          have hms39_1 := NB397_398.out
                          refine skip_ (w1 := ?_) (by rfl) rfl ?_ ?_
                          rotate_left
                          · go_simp
                            rfl
                          refine hK.out _ _ ⟨((cell_far (p := ⟨gb397, _, none⟩) (by first | exact Nat.ne_of_lt (Nat.lt_of_lt_of_le (by have := World.block_lt_of_cell? _ _ hw395_0; first | rwa [add_block] at this | exact this) GW397.out) | (rw [add_block]; exact Nat.ne_of_lt (Nat.lt_of_lt_of_le (by have := World.block_lt_of_cell? _ _ hw395_0; first | rwa [add_block] at this | exact this) GW397.out)) | (show (Addr.add _ _).block ≠ _; rw [add_block]; exact Nat.ne_of_lt (Nat.lt_of_lt_of_le (by have := World.block_lt_of_cell? _ _ hw395_0; first | rwa [add_block] at this | exact this) GW397.out)) | (dsimp only; exact Nat.ne_of_lt (Nat.lt_of_lt_of_le (by have := World.block_lt_of_cell? _ _ hw395_0; first | rwa [add_block] at this | exact this) GW397.out))) _).trans (((cell_far (p := ⟨gb397, _, none⟩) (by first | exact Nat.ne_of_lt (Nat.lt_of_lt_of_le (by have := World.block_lt_of_cell? _ _ hw395_0; first | rwa [add_block] at this | exact this) GW397.out) | (rw [add_block]; exact Nat.ne_of_lt (Nat.lt_of_lt_of_le (by have := World.block_lt_of_cell? _ _ hw395_0; first | rwa [add_block] at this | exact this) GW397.out)) | (show (Addr.add _ _).block ≠ _; rw [add_block]; exact Nat.ne_of_lt (Nat.lt_of_lt_of_le (by have := World.block_lt_of_cell? _ _ hw395_0; first | rwa [add_block] at this | exact this) GW397.out)) | (dsimp only; exact Nat.ne_of_lt (Nat.lt_of_lt_of_le (by have := World.block_lt_of_cell? _ _ hw395_0; first | rwa [add_block] at this | exact this) GW397.out))) _).trans (hHeld.1)))), ((cell_far (p := ⟨gb397, _, none⟩) (by first | exact Nat.ne_of_lt (Nat.lt_of_lt_of_le (by have := World.block_lt_of_cell? _ _ hw395_1; first | rwa [add_block] at this | exact this) GW397.out) | (rw [add_block]; exact Nat.ne_of_lt (Nat.lt_of_lt_of_le (by have := World.block_lt_of_cell? _ _ hw395_1; first | rwa [add_block] at this | exact this) GW397.out)) | (show (Addr.add _ _).block ≠ _; rw [add_block]; exact Nat.ne_of_lt (Nat.lt_of_lt_of_le (by have := World.block_lt_of_cell? _ _ hw395_1; first | rwa [add_block] at this | exact this) GW397.out)) | (dsimp only; exact Nat.ne_of_lt (Nat.lt_of_lt_of_le (by have := World.block_lt_of_cell? _ _ hw395_1; first | rwa [add_block] at this | exact this) GW397.out))) _).trans (((cell_far (p := ⟨gb397, _, none⟩) (by first | exact Nat.ne_of_lt (Nat.lt_of_lt_of_le (by have := World.block_lt_of_cell? _ _ hw395_1; first | rwa [add_block] at this | exact this) GW397.out) | (rw [add_block]; exact Nat.ne_of_lt (Nat.lt_of_lt_of_le (by have := World.block_lt_of_cell? _ _ hw395_1; first | rwa [add_block] at this | exact this) GW397.out)) | (show (Addr.add _ _).block ≠ _; rw [add_block]; exact Nat.ne_of_lt (Nat.lt_of_lt_of_le (by have := World.block_lt_of_cell? _ _ hw395_1; first | rwa [add_block] at this | exact this) GW397.out)) | (dsimp only; exact Nat.ne_of_lt (Nat.lt_of_lt_of_le (by have := World.block_lt_of_cell? _ _ hw395_1; first | rwa [add_block] at this | exact this) GW397.out))) _).trans (hHeld.2.1)))), ((cell_far (p := ⟨gb397, _, none⟩) (by first | exact Nat.ne_of_lt (Nat.lt_of_lt_of_le (by have := World.block_lt_of_cell? _ _ hw396_0; first | rwa [add_block] at this | exact this) GW397.out) | (rw [add_block]; exact Nat.ne_of_lt (Nat.lt_of_lt_of_le (by have := World.block_lt_of_cell? _ _ hw396_0; first | rwa [add_block] at this | exact this) GW397.out)) | (show (Addr.add _ _).block ≠ _; rw [add_block]; exact Nat.ne_of_lt (Nat.lt_of_lt_of_le (by have := World.block_lt_of_cell? _ _ hw396_0; first | rwa [add_block] at this | exact this) GW397.out)) | (dsimp only; exact Nat.ne_of_lt (Nat.lt_of_lt_of_le (by have := World.block_lt_of_cell? _ _ hw396_0; first | rwa [add_block] at this | exact this) GW397.out))) _).trans (((cell_far (p := ⟨gb397, _, none⟩) (by first | exact Nat.ne_of_lt (Nat.lt_of_lt_of_le (by have := World.block_lt_of_cell? _ _ hw396_0; first | rwa [add_block] at this | exact this) GW397.out) | (rw [add_block]; exact Nat.ne_of_lt (Nat.lt_of_lt_of_le (by have := World.block_lt_of_cell? _ _ hw396_0; first | rwa [add_block] at this | exact this) GW397.out)) | (show (Addr.add _ _).block ≠ _; rw [add_block]; exact Nat.ne_of_lt (Nat.lt_of_lt_of_le (by have := World.block_lt_of_cell? _ _ hw396_0; first | rwa [add_block] at this | exact this) GW397.out)) | (dsimp only; exact Nat.ne_of_lt (Nat.lt_of_lt_of_le (by have := World.block_lt_of_cell? _ _ hw396_0; first | rwa [add_block] at this | exact this) GW397.out))) _).trans (hHeld.2.2.1)))), ((cell_far (p := ⟨gb397, _, none⟩) (by first | exact Nat.ne_of_lt (Nat.lt_of_lt_of_le (by have := World.block_lt_of_cell? _ _ hw396_1; first | rwa [add_block] at this | exact this) GW397.out) | (rw [add_block]; exact Nat.ne_of_lt (Nat.lt_of_lt_of_le (by have := World.block_lt_of_cell? _ _ hw396_1; first | rwa [add_block] at this | exact this) GW397.out)) | (show (Addr.add _ _).block ≠ _; rw [add_block]; exact Nat.ne_of_lt (Nat.lt_of_lt_of_le (by have := World.block_lt_of_cell? _ _ hw396_1; first | rwa [add_block] at this | exact this) GW397.out)) | (dsimp only; exact Nat.ne_of_lt (Nat.lt_of_lt_of_le (by have := World.block_lt_of_cell? _ _ hw396_1; first | rwa [add_block] at this | exact this) GW397.out))) _).trans (((cell_far (p := ⟨gb397, _, none⟩) (by first | exact Nat.ne_of_lt (Nat.lt_of_lt_of_le (by have := World.block_lt_of_cell? _ _ hw396_1; first | rwa [add_block] at this | exact this) GW397.out) | (rw [add_block]; exact Nat.ne_of_lt (Nat.lt_of_lt_of_le (by have := World.block_lt_of_cell? _ _ hw396_1; first | rwa [add_block] at this | exact this) GW397.out)) | (show (Addr.add _ _).block ≠ _; rw [add_block]; exact Nat.ne_of_lt (Nat.lt_of_lt_of_le (by have := World.block_lt_of_cell? _ _ hw396_1; first | rwa [add_block] at this | exact this) GW397.out)) | (dsimp only; exact Nat.ne_of_lt (Nat.lt_of_lt_of_le (by have := World.block_lt_of_cell? _ _ hw396_1; first | rwa [add_block] at this | exact this) GW397.out))) _).trans (hHeld.2.2.2))))⟩ (fun hHeld => ?_)
                          clear hK K
                          refine one_ (i := 11) (N := none) #[true, true, true, true, true, true, true, true, true, true, true, true] rfl rfl (one_of HT_.out (by kernel_rfl)) (by decide) (fun K hK => ?_)
                          have hs40 : w37.cell? ⟨gb398, 0, none⟩ = some (.int .i8 0) := (blk_cell BK398.out 0).trans rfl
                          have hfs40 := blk_frozen BK398.out 0
                          have hns40_0 := NB397_398.out
                          have hms40_0 := NB398_397.out
                          have hs41 : w37.cell? ⟨gb398, 1, none⟩ = some (.int .i8 0) := (blk_cell BK398.out 1).trans rfl
                          have hfs41 := blk_frozen BK398.out 1
                          have hns41_0 := NB397_398.out
                          have hms41_0 := NB398_397.out
                          refine skip_ (w1 := ?_) (by rfl) rfl ?_ ?_
                          rotate_left
                          · go_simp
                            rfl
                          refine hK.out _ _ ⟨((cell_far (p := ⟨gb398, _, none⟩) (by first | exact Nat.ne_of_lt (Nat.lt_of_lt_of_le (by have := World.block_lt_of_cell? _ _ hw395_0; first | rwa [add_block] at this | exact this) GW398.out) | (rw [add_block]; exact Nat.ne_of_lt (Nat.lt_of_lt_of_le (by have := World.block_lt_of_cell? _ _ hw395_0; first | rwa [add_block] at this | exact this) GW398.out)) | (show (Addr.add _ _).block ≠ _; rw [add_block]; exact Nat.ne_of_lt (Nat.lt_of_lt_of_le (by have := World.block_lt_of_cell? _ _ hw395_0; first | rwa [add_block] at this | exact this) GW398.out)) | (dsimp only; exact Nat.ne_of_lt (Nat.lt_of_lt_of_le (by have := World.block_lt_of_cell? _ _ hw395_0; first | rwa [add_block] at this | exact this) GW398.out))) _).trans (((cell_far (p := ⟨gb398, _, none⟩) (by first | exact Nat.ne_of_lt (Nat.lt_of_lt_of_le (by have := World.block_lt_of_cell? _ _ hw395_0; first | rwa [add_block] at this | exact this) GW398.out) | (rw [add_block]; exact Nat.ne_of_lt (Nat.lt_of_lt_of_le (by have := World.block_lt_of_cell? _ _ hw395_0; first | rwa [add_block] at this | exact this) GW398.out)) | (show (Addr.add _ _).block ≠ _; rw [add_block]; exact Nat.ne_of_lt (Nat.lt_of_lt_of_le (by have := World.block_lt_of_cell? _ _ hw395_0; first | rwa [add_block] at this | exact this) GW398.out)) | (dsimp only; exact Nat.ne_of_lt (Nat.lt_of_lt_of_le (by have := World.block_lt_of_cell? _ _ hw395_0; first | rwa [add_block] at this | exact this) GW398.out))) _).trans (hHeld.1)))), ((cell_far (p := ⟨gb398, _, none⟩) (by first | exact Nat.ne_of_lt (Nat.lt_of_lt_of_le (by have := World.block_lt_of_cell? _ _ hw395_1; first | rwa [add_block] at this | exact this) GW398.out) | (rw [add_block]; exact Nat.ne_of_lt (Nat.lt_of_lt_of_le (by have := World.block_lt_of_cell? _ _ hw395_1; first | rwa [add_block] at this | exact this) GW398.out)) | (show (Addr.add _ _).block ≠ _; rw [add_block]; exact Nat.ne_of_lt (Nat.lt_of_lt_of_le (by have := World.block_lt_of_cell? _ _ hw395_1; first | rwa [add_block] at this | exact this) GW398.out)) | (dsimp only; exact Nat.ne_of_lt (Nat.lt_of_lt_of_le (by have := World.block_lt_of_cell? _ _ hw395_1; first | rwa [add_block] at this | exact this) GW398.out))) _).trans (((cell_far (p := ⟨gb398, _, none⟩) (by first | exact Nat.ne_of_lt (Nat.lt_of_lt_of_le (by have := World.block_lt_of_cell? _ _ hw395_1; first | rwa [add_block] at this | exact this) GW398.out) | (rw [add_block]; exact Nat.ne_of_lt (Nat.lt_of_lt_of_le (by have := World.block_lt_of_cell? _ _ hw395_1; first | rwa [add_block] at this | exact this) GW398.out)) | (show (Addr.add _ _).block ≠ _; rw [add_block]; exact Nat.ne_of_lt (Nat.lt_of_lt_of_le (by have := World.block_lt_of_cell? _ _ hw395_1; first | rwa [add_block] at this | exact this) GW398.out)) | (dsimp only; exact Nat.ne_of_lt (Nat.lt_of_lt_of_le (by have := World.block_lt_of_cell? _ _ hw395_1; first | rwa [add_block] at this | exact this) GW398.out))) _).trans (hHeld.2.1)))), ((cell_far (p := ⟨gb398, _, none⟩) (by first | exact Nat.ne_of_lt (Nat.lt_of_lt_of_le (by have := World.block_lt_of_cell? _ _ hw396_0; first | rwa [add_block] at this | exact this) GW398.out) | (rw [add_block]; exact Nat.ne_of_lt (Nat.lt_of_lt_of_le (by have := World.block_lt_of_cell? _ _ hw396_0; first | rwa [add_block] at this | exact this) GW398.out)) | (show (Addr.add _ _).block ≠ _; rw [add_block]; exact Nat.ne_of_lt (Nat.lt_of_lt_of_le (by have := World.block_lt_of_cell? _ _ hw396_0; first | rwa [add_block] at this | exact this) GW398.out)) | (dsimp only; exact Nat.ne_of_lt (Nat.lt_of_lt_of_le (by have := World.block_lt_of_cell? _ _ hw396_0; first | rwa [add_block] at this | exact this) GW398.out))) _).trans (((cell_far (p := ⟨gb398, _, none⟩) (by first | exact Nat.ne_of_lt (Nat.lt_of_lt_of_le (by have := World.block_lt_of_cell? _ _ hw396_0; first | rwa [add_block] at this | exact this) GW398.out) | (rw [add_block]; exact Nat.ne_of_lt (Nat.lt_of_lt_of_le (by have := World.block_lt_of_cell? _ _ hw396_0; first | rwa [add_block] at this | exact this) GW398.out)) | (show (Addr.add _ _).block ≠ _; rw [add_block]; exact Nat.ne_of_lt (Nat.lt_of_lt_of_le (by have := World.block_lt_of_cell? _ _ hw396_0; first | rwa [add_block] at this | exact this) GW398.out)) | (dsimp only; exact Nat.ne_of_lt (Nat.lt_of_lt_of_le (by have := World.block_lt_of_cell? _ _ hw396_0; first | rwa [add_block] at this | exact this) GW398.out))) _).trans (hHeld.2.2.1)))), ((cell_far (p := ⟨gb398, _, none⟩) (by first | exact Nat.ne_of_lt (Nat.lt_of_lt_of_le (by have := World.block_lt_of_cell? _ _ hw396_1; first | rwa [add_block] at this | exact this) GW398.out) | (rw [add_block]; exact Nat.ne_of_lt (Nat.lt_of_lt_of_le (by have := World.block_lt_of_cell? _ _ hw396_1; first | rwa [add_block] at this | exact this) GW398.out)) | (show (Addr.add _ _).block ≠ _; rw [add_block]; exact Nat.ne_of_lt (Nat.lt_of_lt_of_le (by have := World.block_lt_of_cell? _ _ hw396_1; first | rwa [add_block] at this | exact this) GW398.out)) | (dsimp only; exact Nat.ne_of_lt (Nat.lt_of_lt_of_le (by have := World.block_lt_of_cell? _ _ hw396_1; first | rwa [add_block] at this | exact this) GW398.out))) _).trans (((cell_far (p := ⟨gb398, _, none⟩) (by first | exact Nat.ne_of_lt (Nat.lt_of_lt_of_le (by have := World.block_lt_of_cell? _ _ hw396_1; first | rwa [add_block] at this | exact this) GW398.out) | (rw [add_block]; exact Nat.ne_of_lt (Nat.lt_of_lt_of_le (by have := World.block_lt_of_cell? _ _ hw396_1; first | rwa [add_block] at this | exact this) GW398.out)) | (show (Addr.add _ _).block ≠ _; rw [add_block]; exact Nat.ne_of_lt (Nat.lt_of_lt_of_le (by have := World.block_lt_of_cell? _ _ hw396_1; first | rwa [add_block] at this | exact this) GW398.out)) | (dsimp only; exact Nat.ne_of_lt (Nat.lt_of_lt_of_le (by have := World.block_lt_of_cell? _ _ hw396_1; first | rwa [add_block] at this | exact this) GW398.out))) _).trans (hHeld.2.2.2))))⟩ (fun hHeld => ?_)
                          clear hK K
                          refine done_ (done_of HT_.out (by kernel_rfl)) ?_
                          try go_wp2
                          have n0_ : Aside0 (Kd.R k26 26 ((((w37.setCell ⟨gb397, 0, none⟩ (.int .i8 ((rd_T35 l0 x6_1).f0))).setCell ⟨gb397, 1, none⟩ (.int .i8 ((rd_T35 l0 x6_1).f1))).setCell ⟨gb398, 0, none⟩ (.int .i8 ((rd_T35 l0 x6_1).f0))).setCell ⟨gb398, 1, none⟩ (.int .i8 ((rd_T35 l0 x6_1).f1))) w.heap.size (fun k_ => k_ ≠ gb397) (.slice Ao13 t384.length co13) t384) := ⟨by (with_reducible repeat (first | apply Kd.R_alloc | apply Kd.R_drewN | apply Kd.R_drew)); exact Kd.R_mono (Kd.R_far (p := ⟨gb398, 1, none⟩) (Kd.R_far (p := ⟨gb398, 0, none⟩) (Kd.R_far (p := ⟨gb397, 1, none⟩) (Kd.R_far (p := ⟨gb397, 0, none⟩) (Kd.R_types (Kd.R_mono HO_5.out (fun k_ hk => (⟨hk, hk⟩ : _ ∧ k_ ≠ gb397))) BK398.out (by decide)) (fun _ hk => hk.1.2) (.int .i8 ((rd_T35 l0 x6_1).f0))) (fun _ hk => hk.1.2) (.int .i8 ((rd_T35 l0 x6_1).f1))) (fun _ hk => hk.2) (.int .i8 ((rd_T35 l0 x6_1).f0))) (fun _ hk => hk.2) (.int .i8 ((rd_T35 l0 x6_1).f1))) (fun _ hk => hk.1.1)⟩
                          have n1_ : Aside0 (((((w37.setCell ⟨gb397, 0, none⟩ (.int .i8 ((rd_T35 l0 x6_1).f0))).setCell ⟨gb397, 1, none⟩ (.int .i8 ((rd_T35 l0 x6_1).f1))).setCell ⟨gb398, 0, none⟩ (.int .i8 ((rd_T35 l0 x6_1).f0))).setCell ⟨gb398, 1, none⟩ (.int .i8 ((rd_T35 l0 x6_1).f1))).heap[gb397]? = some (.cells #[.int .i8 ((rd_T35 l0 x6_1).f0), .int .i8 ((rd_T35 l0 x6_1).f1)] 26 (0, 0))) := ⟨by (with_reducible repeat (first | refine blk_drewN ?_ _ | refine blk_drew ?_ | refine blk_alloc ?_ _)); refine blk_far ?_ NB397_398.out _; (with_reducible repeat (first | refine blk_drewN ?_ _ | refine blk_drew ?_ | refine blk_alloc ?_ _)); refine blk_far ?_ NB397_398.out _; (with_reducible repeat (first | refine blk_drewN ?_ _ | refine blk_drew ?_ | refine blk_alloc ?_ _)); refine blk_put (cs := #[.int .i8 ((rd_T35 l0 x6_1).f0), .int .i8 0]) ?_ 1 _ rfl; (with_reducible repeat (first | refine blk_drewN ?_ _ | refine blk_drew ?_ | refine blk_alloc ?_ _)); refine blk_put (cs := #[.int .i8 0, .int .i8 0]) ?_ 0 _ rfl; (with_reducible repeat (first | refine blk_drewN ?_ _ | refine blk_drew ?_ | refine blk_alloc ?_ _)); exact BK397.out⟩
                          have n2_ : Aside0 (((((w37.setCell ⟨gb397, 0, none⟩ (.int .i8 ((rd_T35 l0 x6_1).f0))).setCell ⟨gb397, 1, none⟩ (.int .i8 ((rd_T35 l0 x6_1).f1))).setCell ⟨gb398, 0, none⟩ (.int .i8 ((rd_T35 l0 x6_1).f0))).setCell ⟨gb398, 1, none⟩ (.int .i8 ((rd_T35 l0 x6_1).f1))).heap[gb398]? = some (.cells #[.int .i8 ((rd_T35 l0 x6_1).f0), .int .i8 ((rd_T35 l0 x6_1).f1)] 25 (0, 0))) := ⟨by (with_reducible repeat (first | refine blk_drewN ?_ _ | refine blk_drew ?_ | refine blk_alloc ?_ _)); refine blk_put (cs := #[.int .i8 ((rd_T35 l0 x6_1).f0), .int .i8 0]) ?_ 1 _ rfl; (with_reducible repeat (first | refine blk_drewN ?_ _ | refine blk_drew ?_ | refine blk_alloc ?_ _)); refine blk_put (cs := #[.int .i8 0, .int .i8 0]) ?_ 0 _ rfl; (with_reducible repeat (first | refine blk_drewN ?_ _ | refine blk_drew ?_ | refine blk_alloc ?_ _)); refine blk_far ?_ NB398_397.out _; (with_reducible repeat (first | refine blk_drewN ?_ _ | refine blk_drew ?_ | refine blk_alloc ?_ _)); refine blk_far ?_ NB398_397.out _; (with_reducible repeat (first | refine blk_drewN ?_ _ | refine blk_drew ?_ | refine blk_alloc ?_ _)); exact BK398.out⟩
                          have n3_ : Aside0 (Below w.heap.size w ((((w37.setCell ⟨gb397, 0, none⟩ (.int .i8 ((rd_T35 l0 x6_1).f0))).setCell ⟨gb397, 1, none⟩ (.int .i8 ((rd_T35 l0 x6_1).f1))).setCell ⟨gb398, 0, none⟩ (.int .i8 ((rd_T35 l0 x6_1).f0))).setCell ⟨gb398, 1, none⟩ (.int .i8 ((rd_T35 l0 x6_1).f1)))) := ⟨by repeat (first | (with_reducible first | exact HB.out | apply below_alloc | apply pw_below_drewN | apply below_drew1 | refine below_set ?_ GE397.out | refine below_set ?_ GE398.out) | exact HB.out)⟩
                          (try clear HO_5)
                          (try clear BK397)
                          (try clear BK398)
                          (try clear HB)
                          generalize ((((w37.setCell ⟨gb397, 0, none⟩ (.int .i8 ((rd_T35 l0 x6_1).f0))).setCell ⟨gb397, 1, none⟩ (.int .i8 ((rd_T35 l0 x6_1).f1))).setCell ⟨gb398, 0, none⟩ (.int .i8 ((rd_T35 l0 x6_1).f0))).setCell ⟨gb398, 1, none⟩ (.int .i8 ((rd_T35 l0 x6_1).f1))) = w42 at n0_ n1_ n2_ n3_ ⊢
                          have HO_5 := n0_
                          have BK397 := n1_
                          have BK398 := n2_
                          have HB := n3_
                          clear n0_ n1_ n2_ n3_
                          have n0_ := Aside0.mk (Kd.R_drew HO_5.out)
                          have n1_ := Aside0.mk (blk_drew BK397.out)
                          have n2_ := Aside0.mk (blk_drew BK398.out)
                          have n3_ := Aside0.mk (below_drew1 HB.out)
                          clear HO_5
                          clear BK397
                          clear BK398
                          clear HB
                          have HO_5 := n0_
                          have BK397 := n1_
                          have BK398 := n2_
                          have HB := n3_
                          clear n0_ n1_ n2_ n3_
                          have p399 : 0 ≤ (x6_1 : Int) := of_decide_eq_true (by first | (with_reducible assumption) | assumption)
                          have q399 : x6_1 < (t384.length : Int) := of_decide_eq_true (by first | (with_reducible assumption) | assumption)
                          obtain ⟨ad399, e399, hx399_0, hx399_1⟩ := at_T26 (Kd.R_reads' HO_5.out).2.2 x6_1 p399 q399
                          cases e399
                          replace p399 := eq_true p399
                          replace q399 := eq_true q399
                          refine start_ (n := 38) (S := fun w' => w'.cell? ⟨gb397, 0, none⟩ = some (.int .i8 ((rd_T35 l0 x6_1).f0)) ∧ w'.cell? ⟨gb397, 1, none⟩ = some (.int .i8 ((rd_T35 l0 x6_1).f1)) ∧ w'.cell? ⟨gb398, 0, none⟩ = some (.int .i8 ((rd_T35 l0 x6_1).f0)) ∧ w'.cell? ⟨gb398, 1, none⟩ = some (.int .i8 ((rd_T35 l0 x6_1).f1)) ∧ w'.cell? (ad399.add ((x6_1).toNat * 2)) = some (.int .i8 ((rd_T26 t384 x6_1).f0)) ∧ w'.cell? ⟨(ad399.add ((x6_1).toNat * 2)).block, (ad399.add ((x6_1).toNat * 2)).off + 1, none⟩ = some (.int .i8 ((rd_T26 t384 x6_1).f1))) (ds := []) #[false, false, false, false, false, false, false, false, false, false, false, false, false, false, false, false, false, false, false, false, false, false, false, false, false, false, false, false, false, false, false, false, false, false, false, false, false, false] (by kernel_rfl) rfl rfl ⟨(blk_cell BK397.out 0).trans rfl, (blk_cell BK397.out 1).trans rfl, (blk_cell BK398.out 0).trans rfl, (blk_cell BK398.out 1).trans rfl, hx399_0, hx399_1⟩ (fun hHeld => ?_); refine with_tabW netlablaw02_StrengthMatches.tab10 netlablaw02_StrengthMatches.bits10 (fun HT_ HW_ => ?_)
                          generalize w42.drew = w43 at HO_5 BK397 BK398 HB hx399_0 hx399_1 hHeld ⊢
                          refine pure_ (i := 0) (N := some 35) (v := ?_) (a' := ?_) #[true, false, false, false, false, false, false, false, false, false, false, false, false, false, false, false, false, false, false, false, false, false, false, false, false, false, false, false, false, false, false, false, false, false, false, false, false, false] rfl rfl (any_of HT_.out (by kernel_rfl)) (fun _ _ _ h => h) (Or.inl ⟨by rfl, ?_⟩) ?_ ?_
                          rotate_left
                          · intro w'
                            go_simp
                            with_reducible rfl
                          rotate_left
                          · simp only [Act.put, List.setIfInBounds_toArray, List.set_cons_zero, List.set_cons_succ, i64_w, i32_w]
                            rfl
                          refine pure_ (i := 1) (N := some 36) (v := ?_) (a' := ?_) #[true, true, false, false, false, false, false, false, false, false, false, false, false, false, false, false, false, false, false, false, false, false, false, false, false, false, false, false, false, false, false, false, false, false, false, false, false, false] rfl rfl (any_of HT_.out (by kernel_rfl)) (fun _ _ _ h => h) (Or.inl ⟨by rfl, ?_⟩) ?_ ?_
                          rotate_left
                          · intro w'
                            go_simp
                            with_reducible rfl
                          rotate_left
                          · simp only [Act.put, List.setIfInBounds_toArray, List.set_cons_zero, List.set_cons_succ, i64_w, i32_w]
                            rfl
                          refine pure_ (i := 2) (N := some 37) (v := ?_) (a' := ?_) #[true, true, true, false, false, false, false, false, false, false, false, false, false, false, false, false, false, false, false, false, false, false, false, false, false, false, false, false, false, false, false, false, false, false, false, false, false, false] rfl rfl (any_of HT_.out (by kernel_rfl)) (fun _ _ _ h => h) (Or.inl ⟨by rfl, ?_⟩) ?_ ?_
                          rotate_left
                          · intro w'
                            go_simp
                            with_reducible rfl
                          rotate_left
                          · simp only [Act.put, List.setIfInBounds_toArray, List.set_cons_zero, List.set_cons_succ, i64_w, i32_w]
                            rfl
                          refine take_ (i := 3) (N := some 38) (v := ?_) (a' := ?_) #[true, true, true, true, false, false, false, false, false, false, false, false, false, false, false, false, false, false, false, false, false, false, false, false, false, false, false, false, false, false, false, false, false, false, false, false, false, false] rfl rfl (take_ofW HT_.out HW_.out (by kernel_rfl)) (fun _ _ _ h => h) (Or.inl ⟨by rfl, ?_⟩) hHeld ?_ ?_
                          rotate_left
                          · rintro w' ⟨s0, s1, s2, s3, s4, s5⟩
                            go_simp
                            with_reducible rfl
                          rotate_left
                          · simp only [Act.put, List.setIfInBounds_toArray, List.set_cons_zero, List.set_cons_succ, i64_w, i32_w]
                            rfl
                          refine take_ (i := 4) (N := some 39) (v := ?_) (a' := ?_) #[true, true, true, true, true, false, false, false, false, false, false, false, false, false, false, false, false, false, false, false, false, false, false, false, false, false, false, false, false, false, false, false, false, false, false, false, false, false] rfl rfl (take_ofW HT_.out HW_.out (by kernel_rfl)) (fun _ _ _ h => h) (Or.inl ⟨by rfl, ?_⟩) hHeld ?_ ?_
                          rotate_left
                          · rintro w' ⟨s0, s1, s2, s3, s4, s5⟩
                            go_simp
                            with_reducible rfl
                          rotate_left
                          · simp only [Act.put, List.setIfInBounds_toArray, List.set_cons_zero, List.set_cons_succ, i64_w, i32_w]
                            rfl
                          refine pure_ (i := 5) (N := some 40) (v := ?_) (a' := ?_) #[true, true, true, true, true, true, false, false, false, false, false, false, false, false, false, false, false, false, false, false, false, false, false, false, false, false, false, false, false, false, false, false, false, false, false, false, false, false] rfl rfl (any_of HT_.out (by kernel_rfl)) (fun _ _ _ h => h) (Or.inl ⟨by rfl, ?_⟩) ?_ ?_
                          rotate_left
                          · intro w'
                            go_simp
                            with_reducible rfl
                          rotate_left
                          · simp only [Act.put, List.setIfInBounds_toArray, List.set_cons_zero, List.set_cons_succ, i64_w, i32_w]
                            rfl
                          refine pure_ (i := 6) (N := some 41) (v := ?_) (a' := ?_) #[true, true, true, true, true, true, true, false, false, false, false, false, false, false, false, false, false, false, false, false, false, false, false, false, false, false, false, false, false, false, false, false, false, false, false, false, false, false] rfl rfl (any_of HT_.out (by kernel_rfl)) (fun _ _ _ h => h) (Or.inl ⟨by rfl, ?_⟩) ?_ ?_
                          rotate_left
                          · intro w'
                            go_simp
                            with_reducible rfl
                          rotate_left
                          · simp only [Act.put, List.setIfInBounds_toArray, List.set_cons_zero, List.set_cons_succ, i64_w, i32_w]
                            rfl
                          refine take_ (i := 7) (N := some 42) (v := ?_) (a' := ?_) #[true, true, true, true, true, true, true, true, false, false, false, false, false, false, false, false, false, false, false, false, false, false, false, false, false, false, false, false, false, false, false, false, false, false, false, false, false, false] rfl rfl (take_ofW HT_.out HW_.out (by kernel_rfl)) (fun _ _ _ h => h) (Or.inl ⟨by rfl, ?_⟩) hHeld ?_ ?_
                          rotate_left
                          · rintro w' ⟨s0, s1, s2, s3, s4, s5⟩
                            go_simp
                            with_reducible rfl
                          rotate_left
                          · simp only [Act.put, List.setIfInBounds_toArray, List.set_cons_zero, List.set_cons_succ, i64_w, i32_w]
                            rfl
                          refine take_ (i := 9) (N := some 44) (v := ?_) (a' := ?_) #[true, true, true, true, true, true, true, true, false, true, false, false, false, false, false, false, false, false, false, false, false, false, false, false, false, false, false, false, false, false, false, false, false, false, false, false, false, false] rfl rfl (take_ofW HT_.out HW_.out (by kernel_rfl)) (fun _ _ _ h => h) (Or.inl ⟨by rfl, ?_⟩) hHeld ?_ ?_
                          rotate_left
                          · rintro w' ⟨s0, s1, s2, s3, s4, s5⟩
                            go_simp
                            with_reducible rfl
                          rotate_left
                          · simp only [Act.put, List.setIfInBounds_toArray, List.set_cons_zero, List.set_cons_succ, i64_w, i32_w]
                            rfl
                          refine one_ (i := 8) (N := some 43) #[true, true, true, true, true, true, true, true, true, true, false, false, false, false, false, false, false, false, false, false, false, false, false, false, false, false, false, false, false, false, false, false, false, false, false, false, false, false] rfl rfl (one_of HT_.out (by kernel_rfl)) (by decide) (fun K hK => ?_)
                          refine goes_ Tryd.func22 (by kernel_rfl) rfl #[.agg #[.int .i8 ((rd_T35 l0 x6_1).f0), .int .i8 ((rd_T35 l0 x6_1).f1)]] (by rfl) rfl rfl (by (try simp only [List.map_toArray, List.map_cons, List.map_nil]); first | done | rfl | (simp only [List.length_drop, List.length_take]; rfl)) ?_
                          with_reducible refine (strength_Norm.calls ((rd_T35 l0 x6_1).f0) ((rd_T35 l0 x6_1).f1) t400 t401 _ A22.out).mono ?_
                          rintro e w44 ⟨rfl, hb⟩
                          have HS4_ := (hb.cell (World.block_lt_of_cell? _ _ (hHeld.2.2.2.2.1))).trans (hHeld.2.2.2.2.1)
                          have HS5_ := (hb.cell (World.block_lt_of_cell? _ _ (hHeld.2.2.2.2.2))).trans (hHeld.2.2.2.2.2)
                          refine ⟨_, rfl, ?_⟩
                          have n0_ := Aside0.mk (Kd.R_below (by (with_reducible repeat (first | apply Kd.R_alloc | apply Kd.R_drewN | apply Kd.R_drew)); exact HO_5.out) hb)
                          have n1_ := Aside0.mk (blk_below (g := gb397) (o := .cells #[.int .i8 ((rd_T35 l0 x6_1).f0), .int .i8 ((rd_T35 l0 x6_1).f1)] 26 (0, 0)) (by (with_reducible repeat (first | refine blk_drewN ?_ _ | refine blk_drew ?_ | refine blk_alloc ?_ _)); exact BK397.out) hb)
                          have n2_ := Aside0.mk (blk_below (g := gb398) (o := .cells #[.int .i8 ((rd_T35 l0 x6_1).f0), .int .i8 ((rd_T35 l0 x6_1).f1)] 25 (0, 0)) (by (with_reducible repeat (first | refine blk_drewN ?_ _ | refine blk_drew ?_ | refine blk_alloc ?_ _)); exact BK398.out) hb)
                          have n3_ := Aside0.mk (below_step (by repeat (first | (with_reducible first | exact HB.out | apply below_alloc | apply pw_below_drewN | apply below_drew1 | refine below_set ?_ GE397.out | refine below_set ?_ GE398.out) | exact HB.out)) hb)
                          clear HO_5
                          clear BK397
                          clear BK398
                          clear HB
                          have HO_5 := n0_
                          have BK397 := n1_
                          have BK398 := n2_
                          have HB := n3_
                          clear n0_ n1_ n2_ n3_
                          (try clear hb)
                          (try clear hb2)
                          (try clear hk)
                          (try clear hi)
                          refine hK.out _ _ ⟨(blk_cell BK397.out 0).trans rfl, (blk_cell BK397.out 1).trans rfl, (blk_cell BK398.out 0).trans rfl, (blk_cell BK398.out 1).trans rfl, HS4_, HS5_⟩ (fun hHeld => ?_)
                          clear hK K
                          refine norm_ (a' := ?_) ?_ ?_
                          rotate_left
                          · show Act.put _ (some 43) _ = _
                            simp only [Act.put, List.setIfInBounds_toArray, List.set_cons_zero, List.set_cons_succ, i64_w, i32_w]
                            rfl
                          refine one_ (i := 10) (N := some 45) #[true, true, true, true, true, true, true, true, true, true, true, false, false, false, false, false, false, false, false, false, false, false, false, false, false, false, false, false, false, false, false, false, false, false, false, false, false, false] rfl rfl (one_of HT_.out (by kernel_rfl)) (by decide) (fun K hK => ?_)
                          refine goes_ Tryd.func26 (by kernel_rfl) rfl #[.agg #[.int .i8 ((rd_T35 l0 x6_1).f0), .int .i8 ((rd_T35 l0 x6_1).f1)]] (by rfl) rfl rfl (by (try simp only [List.map_toArray, List.map_cons, List.map_nil]); first | done | rfl | (simp only [List.length_drop, List.length_take]; rfl)) ?_
                          with_reducible refine (netlabref02_Norm.calls ((rd_T35 l0 x6_1).f0) ((rd_T35 l0 x6_1).f1) t402 t403 _ A23.out).mono ?_
                          rintro e w45 ⟨rfl, hb⟩
                          have HS4_ := (hb.cell (World.block_lt_of_cell? _ _ (hHeld.2.2.2.2.1))).trans (hHeld.2.2.2.2.1)
                          have HS5_ := (hb.cell (World.block_lt_of_cell? _ _ (hHeld.2.2.2.2.2))).trans (hHeld.2.2.2.2.2)
                          refine ⟨_, rfl, ?_⟩
                          have n0_ := Aside0.mk (Kd.R_below (by (with_reducible repeat (first | apply Kd.R_alloc | apply Kd.R_drewN | apply Kd.R_drew)); exact HO_5.out) hb)
                          have n1_ := Aside0.mk (blk_below (g := gb397) (o := .cells #[.int .i8 ((rd_T35 l0 x6_1).f0), .int .i8 ((rd_T35 l0 x6_1).f1)] 26 (0, 0)) (by (with_reducible repeat (first | refine blk_drewN ?_ _ | refine blk_drew ?_ | refine blk_alloc ?_ _)); exact BK397.out) hb)
                          have n2_ := Aside0.mk (blk_below (g := gb398) (o := .cells #[.int .i8 ((rd_T35 l0 x6_1).f0), .int .i8 ((rd_T35 l0 x6_1).f1)] 25 (0, 0)) (by (with_reducible repeat (first | refine blk_drewN ?_ _ | refine blk_drew ?_ | refine blk_alloc ?_ _)); exact BK398.out) hb)
                          have n3_ := Aside0.mk (below_step (by repeat (first | (with_reducible first | exact HB.out | apply below_alloc | apply pw_below_drewN | apply below_drew1 | refine below_set ?_ GE397.out | refine below_set ?_ GE398.out) | exact HB.out)) hb)
                          clear HO_5
                          clear BK397
                          clear BK398
                          clear HB
                          have HO_5 := n0_
                          have BK397 := n1_
                          have BK398 := n2_
                          have HB := n3_
                          clear n0_ n1_ n2_ n3_
                          (try clear hb)
                          (try clear hb2)
                          (try clear hk)
                          (try clear hi)
                          refine hK.out _ _ ⟨(blk_cell BK397.out 0).trans rfl, (blk_cell BK397.out 1).trans rfl, (blk_cell BK398.out 0).trans rfl, (blk_cell BK398.out 1).trans rfl, HS4_, HS5_⟩ (fun hHeld => ?_)
                          clear hK K
                          refine norm_ (a' := ?_) ?_ ?_
                          rotate_left
                          · show Act.put _ (some 45) _ = _
                            simp only [Act.put, List.setIfInBounds_toArray, List.set_cons_zero, List.set_cons_succ, i64_w, i32_w]
                            rfl
                          refine pure_ (i := 11) (N := some 46) (v := ?_) (a' := ?_) #[true, true, true, true, true, true, true, true, true, true, true, true, false, false, false, false, false, false, false, false, false, false, false, false, false, false, false, false, false, false, false, false, false, false, false, false, false, false] rfl rfl (any_of HT_.out (by kernel_rfl)) (fun _ _ _ h => h) (Or.inl ⟨by rfl, ?_⟩) ?_ ?_
                          rotate_left
                          · intro w'
                            go_simp
                            with_reducible rfl
                          rotate_left
                          · simp only [Act.put, List.setIfInBounds_toArray, List.set_cons_zero, List.set_cons_succ, i64_w, i32_w]
                            rfl
                          refine pure_ (i := 12) (N := some 47) (v := ?_) (a' := ?_) #[true, true, true, true, true, true, true, true, true, true, true, true, true, false, false, false, false, false, false, false, false, false, false, false, false, false, false, false, false, false, false, false, false, false, false, false, false, false] rfl rfl (any_of HT_.out (by kernel_rfl)) (fun _ _ _ h => h) (Or.inl ⟨by rfl, ?_⟩) ?_ ?_
                          rotate_left
                          · intro w'
                            go_simp
                            with_reducible rfl
                          rotate_left
                          · simp only [Act.put, List.setIfInBounds_toArray, List.set_cons_zero, List.set_cons_succ, i64_w, i32_w]
                            rfl
                          refine pure_ (i := 13) (N := some 48) (v := ?_) (a' := ?_) #[true, true, true, true, true, true, true, true, true, true, true, true, true, true, false, false, false, false, false, false, false, false, false, false, false, false, false, false, false, false, false, false, false, false, false, false, false, false] rfl rfl (any_of HT_.out (by kernel_rfl)) (fun _ _ _ h => h) (Or.inl ⟨by rfl, ?_⟩) ?_ ?_
                          rotate_left
                          · intro w'
                            go_simp
                            with_reducible rfl
                          rotate_left
                          · simp only [Act.put, List.setIfInBounds_toArray, List.set_cons_zero, List.set_cons_succ, i64_w, i32_w]
                            rfl
                          refine take_ (i := 14) (N := some 49) (v := ?_) (a' := ?_) #[true, true, true, true, true, true, true, true, true, true, true, true, true, true, true, false, false, false, false, false, false, false, false, false, false, false, false, false, false, false, false, false, false, false, false, false, false, false] rfl rfl (take_ofW HT_.out HW_.out (by kernel_rfl)) (fun _ _ _ h => h) (Or.inl ⟨by rfl, ?_⟩) hHeld ?_ ?_
                          rotate_left
                          · rintro w' ⟨s0, s1, s2, s3, s4, s5⟩
                            go_simp
                            with_reducible rfl
                          rotate_left
                          · simp only [Act.put, List.setIfInBounds_toArray, List.set_cons_zero, List.set_cons_succ, i64_w, i32_w]
                            rfl
                          refine take_ (i := 16) (N := some 51) (v := ?_) (a' := ?_) #[true, true, true, true, true, true, true, true, true, true, true, true, true, true, true, false, true, false, false, false, false, false, false, false, false, false, false, false, false, false, false, false, false, false, false, false, false, false] rfl rfl (take_ofW HT_.out HW_.out (by kernel_rfl)) (fun _ _ _ h => h) (Or.inl ⟨by rfl, ?_⟩) hHeld ?_ ?_
                          rotate_left
                          · rintro w' ⟨s0, s1, s2, s3, s4, s5⟩
                            go_simp
                            with_reducible rfl
                          rotate_left
                          · simp only [Act.put, List.setIfInBounds_toArray, List.set_cons_zero, List.set_cons_succ, i64_w, i32_w]
                            rfl
                          refine take_ (i := 18) (N := some 53) (v := ?_) (a' := ?_) #[true, true, true, true, true, true, true, true, true, true, true, true, true, true, true, false, true, false, true, false, false, false, false, false, false, false, false, false, false, false, false, false, false, false, false, false, false, false] rfl rfl (take_ofW HT_.out HW_.out (by kernel_rfl)) (fun _ _ _ h => h) (Or.inl ⟨by rfl, ?_⟩) hHeld ?_ ?_
                          rotate_left
                          · rintro w' ⟨s0, s1, s2, s3, s4, s5⟩
                            go_simp
                            with_reducible rfl
                          rotate_left
                          · simp only [Act.put, List.setIfInBounds_toArray, List.set_cons_zero, List.set_cons_succ, i64_w, i32_w]
                            rfl
                          refine one_ (i := 15) (N := some 50) #[true, true, true, true, true, true, true, true, true, true, true, true, true, true, true, true, true, false, true, false, false, false, false, false, false, false, false, false, false, false, false, false, false, false, false, false, false, false] rfl rfl (one_of HT_.out (by kernel_rfl)) (by decide) (fun K hK => ?_)
                          refine goes_ Tryd.func27 (by kernel_rfl) rfl #[.agg #[.int .i8 ((rd_T35 l0 x6_1).f0), .int .i8 ((rd_T35 l0 x6_1).f1)]] (by rfl) rfl rfl (by (try simp only [List.map_toArray, List.map_cons, List.map_nil]); first | done | rfl | (simp only [List.length_drop, List.length_take]; rfl)) ?_
                          with_reducible refine (strength_Valid.calls ((rd_T35 l0 x6_1).f0) ((rd_T35 l0 x6_1).f1) t404 _ A25.out).mono ?_
                          rintro e w46 ⟨rfl, hb⟩
                          have HS4_ := (hb.cell (World.block_lt_of_cell? _ _ (hHeld.2.2.2.2.1))).trans (hHeld.2.2.2.2.1)
                          have HS5_ := (hb.cell (World.block_lt_of_cell? _ _ (hHeld.2.2.2.2.2))).trans (hHeld.2.2.2.2.2)
                          refine ⟨_, rfl, ?_⟩
                          have n0_ := Aside0.mk (Kd.R_below (by (with_reducible repeat (first | apply Kd.R_alloc | apply Kd.R_drewN | apply Kd.R_drew)); exact HO_5.out) hb)
                          have n1_ := Aside0.mk (blk_below (g := gb397) (o := .cells #[.int .i8 ((rd_T35 l0 x6_1).f0), .int .i8 ((rd_T35 l0 x6_1).f1)] 26 (0, 0)) (by (with_reducible repeat (first | refine blk_drewN ?_ _ | refine blk_drew ?_ | refine blk_alloc ?_ _)); exact BK397.out) hb)
                          have n2_ := Aside0.mk (blk_below (g := gb398) (o := .cells #[.int .i8 ((rd_T35 l0 x6_1).f0), .int .i8 ((rd_T35 l0 x6_1).f1)] 25 (0, 0)) (by (with_reducible repeat (first | refine blk_drewN ?_ _ | refine blk_drew ?_ | refine blk_alloc ?_ _)); exact BK398.out) hb)
                          have n3_ := Aside0.mk (below_step (by repeat (first | (with_reducible first | exact HB.out | apply below_alloc | apply pw_below_drewN | apply below_drew1 | refine below_set ?_ GE397.out | refine below_set ?_ GE398.out) | exact HB.out)) hb)
                          clear HO_5
                          clear BK397
                          clear BK398
                          clear HB
                          have HO_5 := n0_
                          have BK397 := n1_
                          have BK398 := n2_
                          have HB := n3_
                          clear n0_ n1_ n2_ n3_
                          (try clear hb)
                          (try clear hb2)
                          (try clear hk)
                          (try clear hi)
                          refine hK.out _ _ ⟨(blk_cell BK397.out 0).trans rfl, (blk_cell BK397.out 1).trans rfl, (blk_cell BK398.out 0).trans rfl, (blk_cell BK398.out 1).trans rfl, HS4_, HS5_⟩ (fun hHeld => ?_)
                          clear hK K
                          refine norm_ (a' := ?_) ?_ ?_
                          rotate_left
                          · show Act.put _ (some 50) _ = _
                            simp only [Act.put, List.setIfInBounds_toArray, List.set_cons_zero, List.set_cons_succ, i64_w, i32_w]
                            rfl
                          refine one_ (i := 17) (N := some 52) #[true, true, true, true, true, true, true, true, true, true, true, true, true, true, true, true, true, true, true, false, false, false, false, false, false, false, false, false, false, false, false, false, false, false, false, false, false, false] rfl rfl (one_of HT_.out (by kernel_rfl)) (by decide) (fun K hK => ?_)
                          refine goes_ Tryd.func26 (by kernel_rfl) rfl #[.agg #[.int .i8 ((rd_T35 l0 x6_1).f0), .int .i8 ((rd_T35 l0 x6_1).f1)]] (by rfl) rfl rfl (by (try simp only [List.map_toArray, List.map_cons, List.map_nil]); first | done | rfl | (simp only [List.length_drop, List.length_take]; rfl)) ?_
                          with_reducible refine (netlabref02_Norm.calls ((rd_T35 l0 x6_1).f0) ((rd_T35 l0 x6_1).f1) t405 t406 _ A26.out).mono ?_
                          rintro e w47 ⟨rfl, hb⟩
                          have HS4_ := (hb.cell (World.block_lt_of_cell? _ _ (hHeld.2.2.2.2.1))).trans (hHeld.2.2.2.2.1)
                          have HS5_ := (hb.cell (World.block_lt_of_cell? _ _ (hHeld.2.2.2.2.2))).trans (hHeld.2.2.2.2.2)
                          refine ⟨_, rfl, ?_⟩
                          have n0_ := Aside0.mk (Kd.R_below (by (with_reducible repeat (first | apply Kd.R_alloc | apply Kd.R_drewN | apply Kd.R_drew)); exact HO_5.out) hb)
                          have n1_ := Aside0.mk (blk_below (g := gb397) (o := .cells #[.int .i8 ((rd_T35 l0 x6_1).f0), .int .i8 ((rd_T35 l0 x6_1).f1)] 26 (0, 0)) (by (with_reducible repeat (first | refine blk_drewN ?_ _ | refine blk_drew ?_ | refine blk_alloc ?_ _)); exact BK397.out) hb)
                          have n2_ := Aside0.mk (blk_below (g := gb398) (o := .cells #[.int .i8 ((rd_T35 l0 x6_1).f0), .int .i8 ((rd_T35 l0 x6_1).f1)] 25 (0, 0)) (by (with_reducible repeat (first | refine blk_drewN ?_ _ | refine blk_drew ?_ | refine blk_alloc ?_ _)); exact BK398.out) hb)
                          have n3_ := Aside0.mk (below_step (by repeat (first | (with_reducible first | exact HB.out | apply below_alloc | apply pw_below_drewN | apply below_drew1 | refine below_set ?_ GE397.out | refine below_set ?_ GE398.out) | exact HB.out)) hb)
                          clear HO_5
                          clear BK397
                          clear BK398
                          clear HB
                          have HO_5 := n0_
                          have BK397 := n1_
                          have BK398 := n2_
                          have HB := n3_
                          clear n0_ n1_ n2_ n3_
                          (try clear hb)
                          (try clear hb2)
                          (try clear hk)
                          (try clear hi)
                          refine hK.out _ _ ⟨(blk_cell BK397.out 0).trans rfl, (blk_cell BK397.out 1).trans rfl, (blk_cell BK398.out 0).trans rfl, (blk_cell BK398.out 1).trans rfl, HS4_, HS5_⟩ (fun hHeld => ?_)
                          clear hK K
                          refine norm_ (a' := ?_) ?_ ?_
                          rotate_left
                          · show Act.put _ (some 52) _ = _
                            simp only [Act.put, List.setIfInBounds_toArray, List.set_cons_zero, List.set_cons_succ, i64_w, i32_w]
                            rfl
                          refine pure_ (i := 19) (N := some 54) (v := ?_) (a' := ?_) #[true, true, true, true, true, true, true, true, true, true, true, true, true, true, true, true, true, true, true, true, false, false, false, false, false, false, false, false, false, false, false, false, false, false, false, false, false, false] rfl rfl (any_of HT_.out (by kernel_rfl)) (fun _ _ _ h => h) (Or.inl ⟨by rfl, ?_⟩) ?_ ?_
                          rotate_left
                          · intro w'
                            go_simp
                            with_reducible rfl
                          rotate_left
                          · simp only [Act.put, List.setIfInBounds_toArray, List.set_cons_zero, List.set_cons_succ, i64_w, i32_w]
                            rfl
                          refine pure_ (i := 20) (N := some 55) (v := ?_) (a' := ?_) #[true, true, true, true, true, true, true, true, true, true, true, true, true, true, true, true, true, true, true, true, true, false, false, false, false, false, false, false, false, false, false, false, false, false, false, false, false, false] rfl rfl (any_of HT_.out (by kernel_rfl)) (fun _ _ _ h => h) (Or.inl ⟨by rfl, ?_⟩) ?_ ?_
                          rotate_left
                          · intro w'
                            go_simp
                            with_reducible rfl
                          rotate_left
                          · simp only [Act.put, List.setIfInBounds_toArray, List.set_cons_zero, List.set_cons_succ, i64_w, i32_w]
                            rfl
                          refine pure_ (i := 21) (N := some 56) (v := ?_) (a' := ?_) #[true, true, true, true, true, true, true, true, true, true, true, true, true, true, true, true, true, true, true, true, true, true, false, false, false, false, false, false, false, false, false, false, false, false, false, false, false, false] rfl rfl (any_of HT_.out (by kernel_rfl)) (fun _ _ _ h => h) (Or.inl ⟨by rfl, ?_⟩) ?_ ?_
                          rotate_left
                          · intro w'
                            go_simp
                            with_reducible rfl
                          rotate_left
                          · simp only [Act.put, List.setIfInBounds_toArray, List.set_cons_zero, List.set_cons_succ, i64_w, i32_w]
                            rfl
                          refine pure_ (i := 22) (N := some 57) (v := ?_) (a' := ?_) #[true, true, true, true, true, true, true, true, true, true, true, true, true, true, true, true, true, true, true, true, true, true, true, false, false, false, false, false, false, false, false, false, false, false, false, false, false, false] rfl rfl (any_of HT_.out (by kernel_rfl)) (fun _ _ _ h => h) (Or.inl ⟨by rfl, ?_⟩) ?_ ?_
                          rotate_left
                          · intro w'
                            go_simp
                            with_reducible rfl
                          rotate_left
                          · simp only [Act.put, List.setIfInBounds_toArray, List.set_cons_zero, List.set_cons_succ, i64_w, i32_w]
                            rfl
                          refine take_ (i := 23) (N := some 58) (v := ?_) (a' := ?_) #[true, true, true, true, true, true, true, true, true, true, true, true, true, true, true, true, true, true, true, true, true, true, true, true, false, false, false, false, false, false, false, false, false, false, false, false, false, false] rfl rfl (take_ofW HT_.out HW_.out (by kernel_rfl)) (fun _ _ _ h => h) (Or.inl ⟨by rfl, ?_⟩) hHeld ?_ ?_
                          rotate_left
                          · rintro w' ⟨s0, s1, s2, s3, s4, s5⟩
                            go_simp
                            with_reducible rfl
                          rotate_left
                          · simp only [Act.put, List.setIfInBounds_toArray, List.set_cons_zero, List.set_cons_succ, i64_w, i32_w]
                            rfl
                          refine take_ (i := 25) (N := some 60) (v := ?_) (a' := ?_) #[true, true, true, true, true, true, true, true, true, true, true, true, true, true, true, true, true, true, true, true, true, true, true, true, false, true, false, false, false, false, false, false, false, false, false, false, false, false] rfl rfl (take_ofW HT_.out HW_.out (by kernel_rfl)) (fun _ _ _ h => h) (Or.inl ⟨by rfl, ?_⟩) hHeld ?_ ?_
                          rotate_left
                          · rintro w' ⟨s0, s1, s2, s3, s4, s5⟩
                            go_simp
                            with_reducible rfl
                          rotate_left
                          · simp only [Act.put, List.setIfInBounds_toArray, List.set_cons_zero, List.set_cons_succ, i64_w, i32_w]
                            rfl
                          refine one_ (i := 24) (N := some 59) #[true, true, true, true, true, true, true, true, true, true, true, true, true, true, true, true, true, true, true, true, true, true, true, true, true, true, false, false, false, false, false, false, false, false, false, false, false, false] rfl rfl (one_of HT_.out (by kernel_rfl)) (by decide) (fun K hK => ?_)
                          refine goes_ Tryd.func28 (by kernel_rfl) rfl #[.agg #[.int .i8 ((rd_T35 l0 x6_1).f0), .int .i8 ((rd_T35 l0 x6_1).f1)]] (by rfl) rfl rfl (by (try simp only [List.map_toArray, List.map_cons, List.map_nil]); first | done | rfl | (simp only [List.length_drop, List.length_take]; rfl)) ?_
                          with_reducible refine (strength_Read.calls ((rd_T35 l0 x6_1).f0) ((rd_T35 l0 x6_1).f1) t407 _ A28.out).mono ?_
                          rintro e w48 ⟨rfl, hb⟩
                          have HS4_ := (hb.cell (World.block_lt_of_cell? _ _ (hHeld.2.2.2.2.1))).trans (hHeld.2.2.2.2.1)
                          have HS5_ := (hb.cell (World.block_lt_of_cell? _ _ (hHeld.2.2.2.2.2))).trans (hHeld.2.2.2.2.2)
                          refine ⟨_, rfl, ?_⟩
                          have n0_ := Aside0.mk (Kd.R_below (by (with_reducible repeat (first | apply Kd.R_alloc | apply Kd.R_drewN | apply Kd.R_drew)); exact HO_5.out) hb)
                          have n1_ := Aside0.mk (blk_below (g := gb397) (o := .cells #[.int .i8 ((rd_T35 l0 x6_1).f0), .int .i8 ((rd_T35 l0 x6_1).f1)] 26 (0, 0)) (by (with_reducible repeat (first | refine blk_drewN ?_ _ | refine blk_drew ?_ | refine blk_alloc ?_ _)); exact BK397.out) hb)
                          have n2_ := Aside0.mk (blk_below (g := gb398) (o := .cells #[.int .i8 ((rd_T35 l0 x6_1).f0), .int .i8 ((rd_T35 l0 x6_1).f1)] 25 (0, 0)) (by (with_reducible repeat (first | refine blk_drewN ?_ _ | refine blk_drew ?_ | refine blk_alloc ?_ _)); exact BK398.out) hb)
                          have n3_ := Aside0.mk (below_step (by repeat (first | (with_reducible first | exact HB.out | apply below_alloc | apply pw_below_drewN | apply below_drew1 | refine below_set ?_ GE397.out | refine below_set ?_ GE398.out) | exact HB.out)) hb)
                          clear HO_5
                          clear BK397
                          clear BK398
                          clear HB
                          have HO_5 := n0_
                          have BK397 := n1_
                          have BK398 := n2_
                          have HB := n3_
                          clear n0_ n1_ n2_ n3_
                          (try clear hb)
                          (try clear hb2)
                          (try clear hk)
                          (try clear hi)
                          refine hK.out _ _ ⟨(blk_cell BK397.out 0).trans rfl, (blk_cell BK397.out 1).trans rfl, (blk_cell BK398.out 0).trans rfl, (blk_cell BK398.out 1).trans rfl, HS4_, HS5_⟩ (fun hHeld => ?_)
                          clear hK K
                          refine norm_ (a' := ?_) ?_ ?_
                          rotate_left
                          · show Act.put _ (some 59) _ = _
                            simp only [Act.put, List.setIfInBounds_toArray, List.set_cons_zero, List.set_cons_succ, i64_w, i32_w]
                            rfl
                          refine one_ (i := 26) (N := some 61) #[true, true, true, true, true, true, true, true, true, true, true, true, true, true, true, true, true, true, true, true, true, true, true, true, true, true, true, false, false, false, false, false, false, false, false, false, false, false] rfl rfl (one_of HT_.out (by kernel_rfl)) (by decide) (fun K hK => ?_)
                          refine goes_ Tryd.func29 (by kernel_rfl) rfl #[.agg #[.int .i8 ((rd_T35 l0 x6_1).f0), .int .i8 ((rd_T35 l0 x6_1).f1)]] (by rfl) rfl rfl (by (try simp only [List.map_toArray, List.map_cons, List.map_nil]); first | done | rfl | (simp only [List.length_drop, List.length_take]; rfl)) ?_
                          with_reducible refine (netlabref02_Read.calls ((rd_T35 l0 x6_1).f0) ((rd_T35 l0 x6_1).f1) t408 _ A29.out).mono ?_
                          rintro e w49 ⟨rfl, hb⟩
                          have HS4_ := (hb.cell (World.block_lt_of_cell? _ _ (hHeld.2.2.2.2.1))).trans (hHeld.2.2.2.2.1)
                          have HS5_ := (hb.cell (World.block_lt_of_cell? _ _ (hHeld.2.2.2.2.2))).trans (hHeld.2.2.2.2.2)
                          refine ⟨_, rfl, ?_⟩
                          have n0_ := Aside0.mk (Kd.R_below (by (with_reducible repeat (first | apply Kd.R_alloc | apply Kd.R_drewN | apply Kd.R_drew)); exact HO_5.out) hb)
                          have n1_ := Aside0.mk (blk_below (g := gb397) (o := .cells #[.int .i8 ((rd_T35 l0 x6_1).f0), .int .i8 ((rd_T35 l0 x6_1).f1)] 26 (0, 0)) (by (with_reducible repeat (first | refine blk_drewN ?_ _ | refine blk_drew ?_ | refine blk_alloc ?_ _)); exact BK397.out) hb)
                          have n2_ := Aside0.mk (blk_below (g := gb398) (o := .cells #[.int .i8 ((rd_T35 l0 x6_1).f0), .int .i8 ((rd_T35 l0 x6_1).f1)] 25 (0, 0)) (by (with_reducible repeat (first | refine blk_drewN ?_ _ | refine blk_drew ?_ | refine blk_alloc ?_ _)); exact BK398.out) hb)
                          have n3_ := Aside0.mk (below_step (by repeat (first | (with_reducible first | exact HB.out | apply below_alloc | apply pw_below_drewN | apply below_drew1 | refine below_set ?_ GE397.out | refine below_set ?_ GE398.out) | exact HB.out)) hb)
                          clear HO_5
                          clear BK397
                          clear BK398
                          clear HB
                          have HO_5 := n0_
                          have BK397 := n1_
                          have BK398 := n2_
                          have HB := n3_
                          clear n0_ n1_ n2_ n3_
                          (try clear hb)
                          (try clear hb2)
                          (try clear hk)
                          (try clear hi)
                          refine hK.out _ _ ⟨(blk_cell BK397.out 0).trans rfl, (blk_cell BK397.out 1).trans rfl, (blk_cell BK398.out 0).trans rfl, (blk_cell BK398.out 1).trans rfl, HS4_, HS5_⟩ (fun hHeld => ?_)
                          clear hK K
                          refine norm_ (a' := ?_) ?_ ?_
                          rotate_left
                          · show Act.put _ (some 61) _ = _
                            simp only [Act.put, List.setIfInBounds_toArray, List.set_cons_zero, List.set_cons_succ, i64_w, i32_w]
                            rfl
                          refine pure_ (i := 27) (N := some 62) (v := ?_) (a' := ?_) #[true, true, true, true, true, true, true, true, true, true, true, true, true, true, true, true, true, true, true, true, true, true, true, true, true, true, true, true, false, false, false, false, false, false, false, false, false, false] rfl rfl (any_of HT_.out (by kernel_rfl)) (fun _ _ _ h => h) (Or.inl ⟨by rfl, ?_⟩) ?_ ?_
                          rotate_left
                          · intro w'
                            go_simp
                            with_reducible rfl
                          rotate_left
                          · simp only [Act.put, List.setIfInBounds_toArray, List.set_cons_zero, List.set_cons_succ, i64_w, i32_w]
                            rfl
                          refine pure_ (i := 28) (N := some 63) (v := ?_) (a' := ?_) #[true, true, true, true, true, true, true, true, true, true, true, true, true, true, true, true, true, true, true, true, true, true, true, true, true, true, true, true, true, false, false, false, false, false, false, false, false, false] rfl rfl (any_of HT_.out (by kernel_rfl)) (fun _ _ _ h => h) (Or.inl ⟨by rfl, ?_⟩) ?_ ?_
                          rotate_left
                          · intro w'
                            go_simp
                            with_reducible rfl
                          rotate_left
                          · simp only [Act.put, List.setIfInBounds_toArray, List.set_cons_zero, List.set_cons_succ, i64_w, i32_w]
                            rfl
                          refine pure_ (i := 29) (N := some 64) (v := ?_) (a' := ?_) #[true, true, true, true, true, true, true, true, true, true, true, true, true, true, true, true, true, true, true, true, true, true, true, true, true, true, true, true, true, true, false, false, false, false, false, false, false, false] rfl rfl (any_of HT_.out (by kernel_rfl)) (fun _ _ _ h => h) (Or.inl ⟨by rfl, ?_⟩) ?_ ?_
                          rotate_left
                          · intro w'
                            go_simp
                            with_reducible rfl
                          rotate_left
                          · simp only [Act.put, List.setIfInBounds_toArray, List.set_cons_zero, List.set_cons_succ, i64_w, i32_w]
                            rfl
                          refine pure_ (i := 31) (N := some 66) (v := ?_) (a' := ?_) #[true, true, true, true, true, true, true, true, true, true, true, true, true, true, true, true, true, true, true, true, true, true, true, true, true, true, true, true, true, true, false, true, false, false, false, false, false, false] rfl rfl (any_of HT_.out (by kernel_rfl)) (fun _ _ _ h => h) (Or.inl ⟨by rfl, ?_⟩) ?_ ?_
                          rotate_left
                          · intro w'
                            go_simp
                            with_reducible rfl
                          rotate_left
                          · simp only [Act.put, List.setIfInBounds_toArray, List.set_cons_zero, List.set_cons_succ, i64_w, i32_w]
                            rfl
                          refine pure_ (i := 34) (N := some 69) (v := ?_) (a' := ?_) #[true, true, true, true, true, true, true, true, true, true, true, true, true, true, true, true, true, true, true, true, true, true, true, true, true, true, true, true, true, true, false, true, false, false, true, false, false, false] rfl rfl (any_of HT_.out (by kernel_rfl)) (fun _ _ _ h => h) (Or.inl ⟨by rfl, ?_⟩) ?_ ?_
                          rotate_left
                          · intro w'
                            go_simp
                            with_reducible rfl
                          rotate_left
                          · simp only [Act.put, List.setIfInBounds_toArray, List.set_cons_zero, List.set_cons_succ, i64_w, i32_w]
                            rfl
                          refine take_ (i := 30) (N := some 65) (v := ?_) (a' := ?_) #[true, true, true, true, true, true, true, true, true, true, true, true, true, true, true, true, true, true, true, true, true, true, true, true, true, true, true, true, true, true, true, true, false, false, true, false, false, false] rfl rfl (take_ofW HT_.out HW_.out (by kernel_rfl)) (fun _ _ _ h => h) (Or.inl ⟨by rfl, ?_⟩) hHeld ?_ ?_
                          rotate_left
                          · rintro w' ⟨s0, s1, s2, s3, s4, s5⟩
                            go_simp
                            with_reducible rfl
                          rotate_left
                          · simp only [Act.put, List.setIfInBounds_toArray, List.set_cons_zero, List.set_cons_succ, i64_w, i32_w]
                            rfl
                          refine take_ (i := 33) (N := some 68) (v := ?_) (a' := ?_) #[true, true, true, true, true, true, true, true, true, true, true, true, true, true, true, true, true, true, true, true, true, true, true, true, true, true, true, true, true, true, true, true, false, true, true, false, false, false] rfl rfl (take_ofW HT_.out HW_.out (by kernel_rfl)) (fun _ _ _ h => h) (Or.inl ⟨by rfl, ?_⟩) hHeld ?_ ?_
                          rotate_left
                          · rintro w' ⟨s0, s1, s2, s3, s4, s5⟩
                            go_simp
                            with_reducible rfl
                          rotate_left
                          · simp only [Act.put, List.setIfInBounds_toArray, List.set_cons_zero, List.set_cons_succ, i64_w, i32_w]
                            rfl
                          refine one_ (i := 32) (N := some 67) #[true, true, true, true, true, true, true, true, true, true, true, true, true, true, true, true, true, true, true, true, true, true, true, true, true, true, true, true, true, true, true, true, true, true, true, false, false, false] rfl rfl (one_of HT_.out (by kernel_rfl)) (by decide) (fun K hK => ?_)
                          refine goes_ Tryd.func30 (by kernel_rfl) rfl #[.agg #[.int .i8 ((rd_T35 l0 x6_1).f0), .int .i8 ((rd_T35 l0 x6_1).f1)], .int .i64 a1] (by rfl) rfl rfl (by (try simp only [List.map_toArray, List.map_cons, List.map_nil]); first | done | rfl | (simp only [List.length_drop, List.length_take]; rfl)) ?_
                          with_reducible refine (strength_Contains.calls ((rd_T35 l0 x6_1).f0) ((rd_T35 l0 x6_1).f1) a1 t409 _ A31.out).mono ?_
                          rintro e w50 ⟨rfl, hb⟩
                          have HS4_ := (hb.cell (World.block_lt_of_cell? _ _ (hHeld.2.2.2.2.1))).trans (hHeld.2.2.2.2.1)
                          have HS5_ := (hb.cell (World.block_lt_of_cell? _ _ (hHeld.2.2.2.2.2))).trans (hHeld.2.2.2.2.2)
                          refine ⟨_, rfl, ?_⟩
                          have n0_ := Aside0.mk (Kd.R_below (by (with_reducible repeat (first | apply Kd.R_alloc | apply Kd.R_drewN | apply Kd.R_drew)); exact HO_5.out) hb)
                          have n1_ := Aside0.mk (blk_below (g := gb397) (o := .cells #[.int .i8 ((rd_T35 l0 x6_1).f0), .int .i8 ((rd_T35 l0 x6_1).f1)] 26 (0, 0)) (by (with_reducible repeat (first | refine blk_drewN ?_ _ | refine blk_drew ?_ | refine blk_alloc ?_ _)); exact BK397.out) hb)
                          have n2_ := Aside0.mk (blk_below (g := gb398) (o := .cells #[.int .i8 ((rd_T35 l0 x6_1).f0), .int .i8 ((rd_T35 l0 x6_1).f1)] 25 (0, 0)) (by (with_reducible repeat (first | refine blk_drewN ?_ _ | refine blk_drew ?_ | refine blk_alloc ?_ _)); exact BK398.out) hb)
                          have n3_ := Aside0.mk (below_step (by repeat (first | (with_reducible first | exact HB.out | apply below_alloc | apply pw_below_drewN | apply below_drew1 | refine below_set ?_ GE397.out | refine below_set ?_ GE398.out) | exact HB.out)) hb)
                          clear HO_5
                          clear BK397
                          clear BK398
                          clear HB
                          have HO_5 := n0_
                          have BK397 := n1_
                          have BK398 := n2_
                          have HB := n3_
                          clear n0_ n1_ n2_ n3_
                          (try clear hb)
                          (try clear hb2)
                          (try clear hk)
                          (try clear hi)
                          refine hK.out _ _ ⟨(blk_cell BK397.out 0).trans rfl, (blk_cell BK397.out 1).trans rfl, (blk_cell BK398.out 0).trans rfl, (blk_cell BK398.out 1).trans rfl, HS4_, HS5_⟩ (fun hHeld => ?_)
                          clear hK K
                          refine norm_ (a' := ?_) ?_ ?_
                          rotate_left
                          · show Act.put _ (some 67) _ = _
                            simp only [Act.put, List.setIfInBounds_toArray, List.set_cons_zero, List.set_cons_succ, i64_w, i32_w]
                            rfl
                          refine one_ (i := 35) (N := some 70) #[true, true, true, true, true, true, true, true, true, true, true, true, true, true, true, true, true, true, true, true, true, true, true, true, true, true, true, true, true, true, true, true, true, true, true, true, false, false] rfl rfl (one_of HT_.out (by kernel_rfl)) (by decide) (fun K hK => ?_)
                          refine goes_ Tryd.func31 (by kernel_rfl) rfl #[.agg #[.int .i8 ((rd_T35 l0 x6_1).f0), .int .i8 ((rd_T35 l0 x6_1).f1)], .int .i64 a1] (by rfl) rfl rfl (by (try simp only [List.map_toArray, List.map_cons, List.map_nil]); first | done | rfl | (simp only [List.length_drop, List.length_take]; rfl)) ?_
                          with_reducible refine (netlabref02_Contains.calls ((rd_T35 l0 x6_1).f0) ((rd_T35 l0 x6_1).f1) a1 t410 _ A32.out).mono ?_
                          rintro e w51 ⟨rfl, hb⟩
                          have HS4_ := (hb.cell (World.block_lt_of_cell? _ _ (hHeld.2.2.2.2.1))).trans (hHeld.2.2.2.2.1)
                          have HS5_ := (hb.cell (World.block_lt_of_cell? _ _ (hHeld.2.2.2.2.2))).trans (hHeld.2.2.2.2.2)
                          refine ⟨_, rfl, ?_⟩
                          have n0_ := Aside0.mk (Kd.R_below (by (with_reducible repeat (first | apply Kd.R_alloc | apply Kd.R_drewN | apply Kd.R_drew)); exact HO_5.out) hb)
                          have n1_ := Aside0.mk (blk_below (g := gb397) (o := .cells #[.int .i8 ((rd_T35 l0 x6_1).f0), .int .i8 ((rd_T35 l0 x6_1).f1)] 26 (0, 0)) (by (with_reducible repeat (first | refine blk_drewN ?_ _ | refine blk_drew ?_ | refine blk_alloc ?_ _)); exact BK397.out) hb)
                          have n2_ := Aside0.mk (blk_below (g := gb398) (o := .cells #[.int .i8 ((rd_T35 l0 x6_1).f0), .int .i8 ((rd_T35 l0 x6_1).f1)] 25 (0, 0)) (by (with_reducible repeat (first | refine blk_drewN ?_ _ | refine blk_drew ?_ | refine blk_alloc ?_ _)); exact BK398.out) hb)
                          have n3_ := Aside0.mk (below_step (by repeat (first | (with_reducible first | exact HB.out | apply below_alloc | apply pw_below_drewN | apply below_drew1 | refine below_set ?_ GE397.out | refine below_set ?_ GE398.out) | exact HB.out)) hb)
                          clear HO_5
                          clear BK397
                          clear BK398
                          clear HB
                          have HO_5 := n0_
                          have BK397 := n1_
                          have BK398 := n2_
                          have HB := n3_
                          clear n0_ n1_ n2_ n3_
                          (try clear hb)
                          (try clear hb2)
                          (try clear hk)
                          (try clear hi)
                          refine hK.out _ _ ⟨(blk_cell BK397.out 0).trans rfl, (blk_cell BK397.out 1).trans rfl, (blk_cell BK398.out 0).trans rfl, (blk_cell BK398.out 1).trans rfl, HS4_, HS5_⟩ (fun hHeld => ?_)
                          clear hK K
                          refine norm_ (a' := ?_) ?_ ?_
                          rotate_left
                          · show Act.put _ (some 70) _ = _
                            simp only [Act.put, List.setIfInBounds_toArray, List.set_cons_zero, List.set_cons_succ, i64_w, i32_w]
                            rfl
                          refine pure_ (i := 36) (N := some 71) (v := ?_) (a' := ?_) #[true, true, true, true, true, true, true, true, true, true, true, true, true, true, true, true, true, true, true, true, true, true, true, true, true, true, true, true, true, true, true, true, true, true, true, true, true, false] rfl rfl (any_of HT_.out (by kernel_rfl)) (fun _ _ _ h => h) (Or.inl ⟨by rfl, ?_⟩) ?_ ?_
                          rotate_left
                          · intro w'
                            go_simp
                            with_reducible rfl
                          rotate_left
                          · simp only [Act.put, List.setIfInBounds_toArray, List.set_cons_zero, List.set_cons_succ, i64_w, i32_w]
                            rfl
                          refine pure_ (i := 37) (N := some 72) (v := ?_) (a' := ?_) #[true, true, true, true, true, true, true, true, true, true, true, true, true, true, true, true, true, true, true, true, true, true, true, true, true, true, true, true, true, true, true, true, true, true, true, true, true, true] rfl rfl (any_of HT_.out (by kernel_rfl)) (fun _ _ _ h => h) (Or.inl ⟨by rfl, ?_⟩) ?_ ?_
                          rotate_left
                          · intro w'
                            go_simp
                            with_reducible rfl
                          rotate_left
                          · simp only [Act.put, List.setIfInBounds_toArray, List.set_cons_zero, List.set_cons_succ, i64_w, i32_w]
                            rfl
                          refine done_ (done_of HT_.out (by kernel_rfl)) ?_
                          try go_wp2
                          go_roundg k1
                          case measure => have := HK1.out; omega
                          case rel => exact ⟨(wrap64 (x6_1 + 1)), (by first | rfl | (simp; done) | (simp [*]; done)), H', ⟨by have := HK1.out; omega⟩, ⟨by (with_reducible repeat (first | apply Kd.R_alloc | apply Kd.R_drewN | apply Kd.R_drew)); exact Kd.R_mono HO_5.out (fun _ hk => trivial)⟩, ⟨by repeat (first | (with_reducible first | exact HB.out | apply below_alloc | apply pw_below_drewN | apply below_drew1 | refine below_set ?_ GE397.out | refine below_set ?_ GE398.out) | exact HB.out)⟩⟩
                      · rw [if_neg c30] at H
                        have c30b0 : (t407 == t408) = false := beq_eq_false_iff_ne.mpr c30
                        have c30b1 : (t407 != t408) = true := bne_iff_ne.mpr c30
                        exact absurd H (by simp)
              · rw [if_neg c20] at H
                exact absurd H (by simp)
            · rw [if_neg c19] at H
              exact absurd H (by simp)
          · rw [if_neg c18] at H
            have c18b0 : decide (x6_1 < (l0.length : Int)) = false := decide_eq_false c18
            clear c18
            replace H := Option.bind_eq_some_iff.mp H
            obtain ⟨t394, A520, H⟩ := H
            replace H : (if t394 = true then (some true) else (none)) = some r := H
            have A52 := Aside0.mk A520
            clear A520
            by_cases c53 : t394 = true
            · subst c53
              have H1 : (some true) = some r := by rw [if_pos rfl] at H; exact H
              clear H
              have H := H1
              clear H1
              obtain rfl := Option.some.inj H
              go_wp2_with (first | ((with_reducible refine gate_callee (f := 17) rfl ?_); refine goesL_ (some 73) rfl rfl Tryd.func17 (by kernel_rfl) rfl #[] rfl (by (try simp only [List.map_toArray, List.map_cons, List.map_nil]); first | done | rfl | (simp only [List.length_drop, List.length_take]; rfl)) ?_; (with_reducible refine (netlablaw02_awake.calls k1  true _ (Glob.below HG.out (by repeat (first | (with_reducible first | exact HB.out | apply below_alloc | apply pw_below_drewN | apply below_drew1) | exact HB.out))) A52.out).mono ?_); rintro e w54 ⟨rfl, hb⟩; refine ⟨_, rfl, ?_⟩; have n0_ := Aside0.mk (Kd.R_below (by (with_reducible repeat (first | apply Kd.R_alloc | apply Kd.R_drewN | apply Kd.R_drew)); exact HO_5.out) hb); have n1_ := Aside0.mk (below_step (by repeat (first | (with_reducible first | exact HB.out | apply below_alloc | apply pw_below_drewN | apply below_drew1) | exact HB.out)) hb); clear HO_5; clear HB; have HO_5 := n0_; have HB := n1_; clear n0_ n1_; (try clear hb); (try clear hb2); (try clear hk); (try clear hi)))
              go_ret
              exact ⟨by first | rfl | (simp [errW_none, errW_some] <;> rfl) | (simp [*, errW_none, errW_some] <;> rfl), by repeat (first | (with_reducible first | exact HB.out | apply below_alloc | apply pw_below_drewN | apply below_drew1) | exact HB.out)⟩
            · replace c53 := Bool.eq_false_iff.mpr c53
              subst c53
              have H1 : (none) = some r := by rw [if_neg (show ¬ (false = true) by decide)] at H; exact H
              clear H
              have H := H1
              clear H1
              exact absurd H (by simp)

end Go.Proofs.YtcgckodhehnpnaaDoor.F
