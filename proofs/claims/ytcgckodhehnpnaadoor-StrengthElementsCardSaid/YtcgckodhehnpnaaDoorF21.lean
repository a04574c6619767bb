-- Written by a program of this session (wip/tools/drive.py) over the kit's print.py.
import Derived.Test.YtcgckodhehnpnaaDoorF0
import Derived.Test.YtcgckodhehnpnaaDoorF5
import Derived.Test.YtcgckodhehnpnaaDoorF7
import Derived.Test.YtcgckodhehnpnaaDoorF9
import Derived.Test.YtcgckodhehnpnaaDoorF15
import Derived.Test.YtcgckodhehnpnaaDoorF18
namespace Go.Proofs.YtcgckodhehnpnaaDoor.F
open Go.RowKit Go.Proofs.YtcgckodhehnpnaaDoorW.PrintWords Go.Proofs.YtcgckodhehnpnaaDoorW.PrintLast Go.Proofs.YtcgckodhehnpnaaDoorW.PrintMore
attribute [local go_sem] max2_int min2_int max_two min_two max_three min_three max_four min_four   -- for this text's walks alone
set_option linter.unusedVariables false
set_option linter.unusedSimpArgs false

/-! ### netlablaw02_StrengthElements: function 10 -/
mutual
def netlablaw02_StrengthElements.j0 : Nat → Bool → Int → Int → Int → Int → Int → Int → Option (Bool)
 | 0, _, _, _, _, _, _, _ => none
 | k + 1, x53, x502000, x502001, x503000, x503001, x509000, x509001 => if x53 = true then (none) else (netlablaw02_StrengthElements.l0 k (-7) x502000 x502001 x503000 x503001 x509000 x509001)
def netlablaw02_StrengthElements.l0 : Nat → Int → Int → Int → Int → Int → Int → Int → Option (Bool)
 | 0, _, _, _, _, _, _, _ => none
 | k + 1, x8, x502000, x502001, x503000, x503001, x509000, x509001 => if x8 ≤ 7 then (netlablaw02_StrengthElements.l1 k x8 false x502000 x502000 x502001 x503000 x503001 x509000 x509001) else ((netlablaw02_awake.f k).bind fun t512 => (if t512 = true then (some true) else (none)))
def netlablaw02_StrengthElements.l1 : Nat → Int → Bool → Int → Int → Int → Int → Int → Int → Int → Option (Bool)
 | 0, _, _, _, _, _, _, _, _, _ => none
 | k + 1, x8, x9, x10, x502000, x502001, x503000, x503001, x509000, x509001 => if x10 ≤ x502001 then (netlablaw02_StrengthElements.l2 k x8 x9 x10 x503000 x502000 x502001 x503000 x503001 x509000 x509001) else ((strength_Contains.f x509000 x509001 (wrap64 (x8))).bind fun t513 => (if (t513 != x9) = true then (none) else (netlablaw02_StrengthElements.l0 k (IntKind.i8.wrap (x8 + 1)) x502000 x502001 x503000 x503001 x509000 x509001)))
def netlablaw02_StrengthElements.l2 : Nat → Int → Bool → Int → Int → Int → Int → Int → Int → Int → Int → Option (Bool)
 | 0, _, _, _, _, _, _, _, _, _, _ => none
 | k + 1, x8, x9, x10, x11, x502000, x502001, x503000, x503001, x509000, x509001 => if x11 ≤ x503001 then ((netlabref02_Levels.f k x10 x11).bind fun t514 => (if x9 = true then (netlablaw02_StrengthElements.l2 k x8 true x10 (IntKind.i8.wrap (x11 + 1)) x502000 x502001 x503000 x503001 x509000 x509001) else (if 0 < (t514.length : Int) then (if (rd t514 0) ≤ x8 then (if 0 ≤ (wrap64 ((t514.length : Int) - 1)) then (if (wrap64 ((t514.length : Int) - 1)) < (t514.length : Int) then (netlablaw02_StrengthElements.l2 k x8 (decide (x8 ≤ (rd t514 (wrap64 ((t514.length : Int) - 1))))) x10 (IntKind.i8.wrap (x11 + 1)) x502000 x502001 x503000 x503001 x509000 x509001) else (none)) else (none)) else (netlablaw02_StrengthElements.l2 k x8 false x10 (IntKind.i8.wrap (x11 + 1)) x502000 x502001 x503000 x503001 x509000 x509001)) else (none)))) else (netlablaw02_StrengthElements.l1 k x8 x9 (IntKind.i8.wrap (x10 + 1)) x502000 x502001 x503000 x503001 x509000 x509001)
end
def netlablaw02_StrengthElements.f (k : Nat) (a0_0 : Int) (a0_1 : Int) (a1_0 : Int) (a1_1 : Int) : Option (Bool) := (strength_Norm.f a0_0 a0_1).bind fun bt497 => ((strength_Norm.f a1_0 a1_1).bind fun bt499 => ((strength_Combine.f k (([(⟨a0_0, a0_1⟩ : S26), (⟨a1_0, a1_1⟩ : S26)] : List (S26)))).bind fun bt506 => ((strength_Valid.f bt497.1 bt497.2).bind fun t509 => (if t509 = true then ((strength_Valid.f bt499.1 bt499.2).bind fun t510 => (if t510 = true then ((strength_Valid.f bt506.1 bt506.2).bind fun t511 => (if t511 = true then (if bt497.1 < (-7) then (netlablaw02_StrengthElements.j0 k true bt497.1 bt497.2 bt499.1 bt499.2 bt506.1 bt506.2) else (if bt497.2 > 7 then (netlablaw02_StrengthElements.j0 k true bt497.1 bt497.2 bt499.1 bt499.2 bt506.1 bt506.2) else (if bt499.1 < (-7) then (netlablaw02_StrengthElements.j0 k true bt497.1 bt497.2 bt499.1 bt499.2 bt506.1 bt506.2) else (netlablaw02_StrengthElements.j0 k (decide (bt499.2 > 7)) bt497.1 bt497.2 bt499.1 bt499.2 bt506.1 bt506.2)))) else (netlablaw02_StrengthElements.j0 k true bt497.1 bt497.2 bt499.1 bt499.2 bt506.1 bt506.2))) else (netlablaw02_StrengthElements.j0 k true bt497.1 bt497.2 bt499.1 bt499.2 bt506.1 bt506.2))) else (netlablaw02_StrengthElements.j0 k true bt497.1 bt497.2 bt499.1 bt499.2 bt506.1 bt506.2)))))
theorem netlablaw02_StrengthElements.mono_l : ∀ k, (∀ y0 y1 y2 y3 y4 y5 y6, LeO (netlablaw02_StrengthElements.j0 k y0 y1 y2 y3 y4 y5 y6) (netlablaw02_StrengthElements.j0 (k + 1) y0 y1 y2 y3 y4 y5 y6)) ∧ (∀ y0 y1 y2 y3 y4 y5 y6, LeO (netlablaw02_StrengthElements.l0 k y0 y1 y2 y3 y4 y5 y6) (netlablaw02_StrengthElements.l0 (k + 1) y0 y1 y2 y3 y4 y5 y6)) ∧ (∀ y0 y1 y2 y3 y4 y5 y6 y7 y8, LeO (netlablaw02_StrengthElements.l1 k y0 y1 y2 y3 y4 y5 y6 y7 y8) (netlablaw02_StrengthElements.l1 (k + 1) y0 y1 y2 y3 y4 y5 y6 y7 y8)) ∧ (∀ y0 y1 y2 y3 y4 y5 y6 y7 y8 y9, LeO (netlablaw02_StrengthElements.l2 k y0 y1 y2 y3 y4 y5 y6 y7 y8 y9) (netlablaw02_StrengthElements.l2 (k + 1) y0 y1 y2 y3 y4 y5 y6 y7 y8 y9))
 | 0 => ⟨fun _ _ _ _ _ _ _ r h => by simp [netlablaw02_StrengthElements.j0] at h, fun _ _ _ _ _ _ _ r h => by simp [netlablaw02_StrengthElements.l0] at h, fun _ _ _ _ _ _ _ _ _ r h => by simp [netlablaw02_StrengthElements.l1] at h, fun _ _ _ _ _ _ _ _ _ _ r h => by simp [netlablaw02_StrengthElements.l2] at h⟩
 | k + 1 => by
  obtain ⟨ih0, ih1, ih2, ih3⟩ := netlablaw02_StrengthElements.mono_l k
  refine ⟨?_, ?_, ?_, ?_⟩
  ·intro y0 y1 y2 y3 y4 y5 y6
   unfold netlablaw02_StrengthElements.j0
   repeat' first
   | (with_reducible exact ih0 _ _ _ _ _ _ _)
   | (with_reducible exact ih1 _ _ _ _ _ _ _)
   | (with_reducible exact ih2 _ _ _ _ _ _ _ _ _)
   | (with_reducible exact ih3 _ _ _ _ _ _ _ _ _ _)
   | (with_reducible exact netlablaw02_awake.mono _)
   | (with_reducible exact netlabref02_Levels.mono _ _ _)
   | (with_reducible exact strength_Combine.mono _ _)
   | (with_reducible exact LeO.refl _)
   | (with_reducible exact LeO.none _)
   | (with_reducible refine LeO.ite ?_ ?_)
   | (with_reducible refine LeO.bind ?_ (fun _ => ?_))
   | exact ih0 _ _ _ _ _ _ _
   | exact ih1 _ _ _ _ _ _ _
   | exact ih2 _ _ _ _ _ _ _ _ _
   | exact ih3 _ _ _ _ _ _ _ _ _ _
   | exact netlablaw02_awake.mono _
   | exact netlabref02_Levels.mono _ _ _
   | exact strength_Combine.mono _ _
   | exact LeO.none _
   | refine LeO.ite ?_ ?_
   | refine LeO.bind ?_ (fun _ => ?_)
  ·intro y0 y1 y2 y3 y4 y5 y6
   unfold netlablaw02_StrengthElements.l0
   repeat' first
   | (with_reducible exact ih0 _ _ _ _ _ _ _)
   | (with_reducible exact ih1 _ _ _ _ _ _ _)
   | (with_reducible exact ih2 _ _ _ _ _ _ _ _ _)
   | (with_reducible exact ih3 _ _ _ _ _ _ _ _ _ _)
   | (with_reducible exact netlablaw02_awake.mono _)
   | (with_reducible exact netlabref02_Levels.mono _ _ _)
   | (with_reducible exact strength_Combine.mono _ _)
   | (with_reducible exact LeO.refl _)
   | (with_reducible exact LeO.none _)
   | (with_reducible refine LeO.ite ?_ ?_)
   | (with_reducible refine LeO.bind ?_ (fun _ => ?_))
   | exact ih0 _ _ _ _ _ _ _
   | exact ih1 _ _ _ _ _ _ _
   | exact ih2 _ _ _ _ _ _ _ _ _
   | exact ih3 _ _ _ _ _ _ _ _ _ _
   | exact netlablaw02_awake.mono _
   | exact netlabref02_Levels.mono _ _ _
   | exact strength_Combine.mono _ _
   | exact LeO.none _
   | refine LeO.ite ?_ ?_
   | refine LeO.bind ?_ (fun _ => ?_)
  ·intro y0 y1 y2 y3 y4 y5 y6 y7 y8
   unfold netlablaw02_StrengthElements.l1
   repeat' first
   | (with_reducible exact ih0 _ _ _ _ _ _ _)
   | (with_reducible exact ih1 _ _ _ _ _ _ _)
   | (with_reducible exact ih2 _ _ _ _ _ _ _ _ _)
   | (with_reducible exact ih3 _ _ _ _ _ _ _ _ _ _)
   | (with_reducible exact netlablaw02_awake.mono _)
   | (with_reducible exact netlabref02_Levels.mono _ _ _)
   | (with_reducible exact strength_Combine.mono _ _)
   | (with_reducible exact LeO.refl _)
   | (with_reducible exact LeO.none _)
   | (with_reducible refine LeO.ite ?_ ?_)
   | (with_reducible refine LeO.bind ?_ (fun _ => ?_))
   | exact ih0 _ _ _ _ _ _ _
   | exact ih1 _ _ _ _ _ _ _
   | exact ih2 _ _ _ _ _ _ _ _ _
   | exact ih3 _ _ _ _ _ _ _ _ _ _
   | exact netlablaw02_awake.mono _
   | exact netlabref02_Levels.mono _ _ _
   | exact strength_Combine.mono _ _
   | exact LeO.none _
   | refine LeO.ite ?_ ?_
   | refine LeO.bind ?_ (fun _ => ?_)
  ·intro y0 y1 y2 y3 y4 y5 y6 y7 y8 y9
   unfold netlablaw02_StrengthElements.l2
   repeat' first
   | (with_reducible exact ih0 _ _ _ _ _ _ _)
   | (with_reducible exact ih1 _ _ _ _ _ _ _)
   | (with_reducible exact ih2 _ _ _ _ _ _ _ _ _)
   | (with_reducible exact ih3 _ _ _ _ _ _ _ _ _ _)
   | (with_reducible exact netlablaw02_awake.mono _)
   | (with_reducible exact netlabref02_Levels.mono _ _ _)
   | (with_reducible exact strength_Combine.mono _ _)
   | (with_reducible exact LeO.refl _)
   | (with_reducible exact LeO.none _)
   | (with_reducible refine LeO.ite ?_ ?_)
   | (with_reducible refine LeO.bind ?_ (fun _ => ?_))
   | exact ih0 _ _ _ _ _ _ _
   | exact ih1 _ _ _ _ _ _ _
   | exact ih2 _ _ _ _ _ _ _ _ _
   | exact ih3 _ _ _ _ _ _ _ _ _ _
   | exact netlablaw02_awake.mono _
   | exact netlabref02_Levels.mono _ _ _
   | exact strength_Combine.mono _ _
   | exact LeO.none _
   | refine LeO.ite ?_ ?_
   | refine LeO.bind ?_ (fun _ => ?_)
theorem netlablaw02_StrengthElements.mono : ∀ a0 a1 a2 a3 k, LeO (netlablaw02_StrengthElements.f k a0 a1 a2 a3) (netlablaw02_StrengthElements.f (k + 1) a0 a1 a2 a3) := by
 intro a0 a1 a2 a3 k
 obtain ⟨ih0, ih1, ih2, ih3⟩ := netlablaw02_StrengthElements.mono_l k
 unfold netlablaw02_StrengthElements.f
 repeat' first
   | (with_reducible exact ih0 _ _ _ _ _ _ _)
   | (with_reducible exact ih1 _ _ _ _ _ _ _)
   | (with_reducible exact ih2 _ _ _ _ _ _ _ _ _)
   | (with_reducible exact ih3 _ _ _ _ _ _ _ _ _ _)
   | (with_reducible exact netlablaw02_awake.mono _)
   | (with_reducible exact netlabref02_Levels.mono _ _ _)
   | (with_reducible exact strength_Combine.mono _ _)
   | (with_reducible exact LeO.refl _)
   | (with_reducible exact LeO.none _)
   | (with_reducible refine LeO.ite ?_ ?_)
   | (with_reducible refine LeO.bind ?_ (fun _ => ?_))
   | exact ih0 _ _ _ _ _ _ _
   | exact ih1 _ _ _ _ _ _ _
   | exact ih2 _ _ _ _ _ _ _ _ _
   | exact ih3 _ _ _ _ _ _ _ _ _ _
   | exact netlablaw02_awake.mono _
   | exact netlabref02_Levels.mono _ _ _
   | exact strength_Combine.mono _ _
   | exact LeO.none _
   | refine LeO.ite ?_ ?_
   | refine LeO.bind ?_ (fun _ => ?_)
def netlablaw02_StrengthElements.T1 : Bool × List (List Nat × List Nat) := (true, [([], []), ([0], [0]), ([], []), ([2, 1], [2]), ([], []), ([], []), ([4, 1, 3, 0, 1, 4, 5], [1, 4]), ([5, 3, 6, 0, 1, 2, 3, 4, 5, 6], [3, 5])])
def netlablaw02_StrengthElements.B1 : List Nat := [0, 1, 0, 7, 0, 0, 63, 127]
theorem netlablaw02_StrengthElements.tab1 : rtab .any (opsOf Tryd.f10 1) = netlablaw02_StrengthElements.T1 := by kernel_rfl
theorem netlablaw02_StrengthElements.bits1 : waitsOk netlablaw02_StrengthElements.T1.2 netlablaw02_StrengthElements.B1 = true := by kernel_rfl
set_option maxHeartbeats 8000000 in
set_option maxRecDepth 100000 in
theorem netlablaw02_StrengthElements.calls (k : Nat) (a0_0 : Int) (a0_1 : Int) (a1_0 : Int) (a1_1 : Int) (r : Bool) (w : World) (hG : Glob w) (h : netlablaw02_StrengthElements.f k a0_0 a0_1 a1_0 a1_1 = some r) :
  Calls Tryd.prog 10 #[.agg #[.int .i8 a0_0, .int .i8 a0_1], .agg #[.int .i8 a1_0, .int .i8 a1_1]] w fun e w' => e = .returned (.bool r) ∧ Below w.heap.size w w' := by
 have hu35 := Tryd.underlying35
 have hu26 := Tryd.underlying26
 have HG := Aside0.mk hG
 clear hG
 have HB := Aside0.mk (Below.refl w.heap.size w)
 have H : ((strength_Norm.f a0_0 a0_1).bind fun bt497 => ((strength_Norm.f a1_0 a1_1).bind fun bt499 => ((strength_Combine.f k (([(⟨a0_0, a0_1⟩ : S26), (⟨a1_0, a1_1⟩ : S26)] : List (S26)))).bind fun bt506 => ((strength_Valid.f bt497.1 bt497.2).bind fun t509 => (if t509 = true then ((strength_Valid.f bt499.1 bt499.2).bind fun t510 => (if t510 = true then ((strength_Valid.f bt506.1 bt506.2).bind fun t511 => (if t511 = true then (if bt497.1 < (-7) then (netlablaw02_StrengthElements.j0 k true bt497.1 bt497.2 bt499.1 bt499.2 bt506.1 bt506.2) else (if bt497.2 > 7 then (netlablaw02_StrengthElements.j0 k true bt497.1 bt497.2 bt499.1 bt499.2 bt506.1 bt506.2) else (if bt499.1 < (-7) then (netlablaw02_StrengthElements.j0 k true bt497.1 bt497.2 bt499.1 bt499.2 bt506.1 bt506.2) else (netlablaw02_StrengthElements.j0 k (decide (bt499.2 > 7)) bt497.1 bt497.2 bt499.1 bt499.2 bt506.1 bt506.2)))) else (netlablaw02_StrengthElements.j0 k true bt497.1 bt497.2 bt499.1 bt499.2 bt506.1 bt506.2))) else (netlablaw02_StrengthElements.j0 k true bt497.1 bt497.2 bt499.1 bt499.2 bt506.1 bt506.2))) else (netlablaw02_StrengthElements.j0 k true bt497.1 bt497.2 bt499.1 bt499.2 bt506.1 bt506.2)))))) = some r := h
 clear h
 replace H := Option.bind_eq_some_iff.mp H
 obtain ⟨⟨t497, t498⟩, A30, H⟩ := H
 replace H : ((strength_Norm.f a1_0 a1_1).bind fun bt499 => ((strength_Combine.f k (([(⟨a0_0, a0_1⟩ : S26), (⟨a1_0, a1_1⟩ : S26)] : List (S26)))).bind fun bt506 => ((strength_Valid.f t497 t498).bind fun t509 => (if t509 = true then ((strength_Valid.f bt499.1 bt499.2).bind fun t510 => (if t510 = true then ((strength_Valid.f bt506.1 bt506.2).bind fun t511 => (if t511 = true then (if t497 < (-7) then (netlablaw02_StrengthElements.j0 k true t497 t498 bt499.1 bt499.2 bt506.1 bt506.2) else (if t498 > 7 then (netlablaw02_StrengthElements.j0 k true t497 t498 bt499.1 bt499.2 bt506.1 bt506.2) else (if bt499.1 < (-7) then (netlablaw02_StrengthElements.j0 k true t497 t498 bt499.1 bt499.2 bt506.1 bt506.2) else (netlablaw02_StrengthElements.j0 k (decide (bt499.2 > 7)) t497 t498 bt499.1 bt499.2 bt506.1 bt506.2)))) else (netlablaw02_StrengthElements.j0 k true t497 t498 bt499.1 bt499.2 bt506.1 bt506.2))) else (netlablaw02_StrengthElements.j0 k true t497 t498 bt499.1 bt499.2 bt506.1 bt506.2))) else (netlablaw02_StrengthElements.j0 k true t497 t498 bt499.1 bt499.2 bt506.1 bt506.2))))) = some r := H
 have A3 := Aside0.mk A30
 clear A30
 replace H := Option.bind_eq_some_iff.mp H
 obtain ⟨⟨t499, t500⟩, A40, H⟩ := H
 replace H : ((strength_Combine.f k (([(⟨a0_0, a0_1⟩ : S26), (⟨a1_0, a1_1⟩ : S26)] : List (S26)))).bind fun bt506 => ((strength_Valid.f t497 t498).bind fun t509 => (if t509 = true then ((strength_Valid.f t499 t500).bind fun t510 => (if t510 = true then ((strength_Valid.f bt506.1 bt506.2).bind fun t511 => (if t511 = true then (if t497 < (-7) then (netlablaw02_StrengthElements.j0 k true t497 t498 t499 t500 bt506.1 bt506.2) else (if t498 > 7 then (netlablaw02_StrengthElements.j0 k true t497 t498 t499 t500 bt506.1 bt506.2) else (if t499 < (-7) then (netlablaw02_StrengthElements.j0 k true t497 t498 t499 t500 bt506.1 bt506.2) else (netlablaw02_StrengthElements.j0 k (decide (t500 > 7)) t497 t498 t499 t500 bt506.1 bt506.2)))) else (netlablaw02_StrengthElements.j0 k true t497 t498 t499 t500 bt506.1 bt506.2))) else (netlablaw02_StrengthElements.j0 k true t497 t498 t499 t500 bt506.1 bt506.2))) else (netlablaw02_StrengthElements.j0 k true t497 t498 t499 t500 bt506.1 bt506.2)))) = some r := H
 have A4 := Aside0.mk A40
 clear A40
 obtain ⟨y503, hy503⟩ : ∃ y_ : List (S26), y_ = (([(⟨a0_0, a0_1⟩ : S26), (⟨a1_0, a1_1⟩ : S26)] : List (S26))) := ⟨_, rfl⟩
 replace H : ((strength_Combine.f k y503).bind fun bt506 => ((strength_Valid.f t497 t498).bind fun t509 => (if t509 = true then ((strength_Valid.f t499 t500).bind fun t510 => (if t510 = true then ((strength_Valid.f bt506.1 bt506.2).bind fun t511 => (if t511 = true then (if t497 < (-7) then (netlablaw02_StrengthElements.j0 k true t497 t498 t499 t500 bt506.1 bt506.2) else (if t498 > 7 then (netlablaw02_StrengthElements.j0 k true t497 t498 t499 t500 bt506.1 bt506.2) else (if t499 < (-7) then (netlablaw02_StrengthElements.j0 k true t497 t498 t499 t500 bt506.1 bt506.2) else (netlablaw02_StrengthElements.j0 k (decide (t500 > 7)) t497 t498 t499 t500 bt506.1 bt506.2)))) else (netlablaw02_StrengthElements.j0 k true t497 t498 t499 t500 bt506.1 bt506.2))) else (netlablaw02_StrengthElements.j0 k true t497 t498 t499 t500 bt506.1 bt506.2))) else (netlablaw02_StrengthElements.j0 k true t497 t498 t499 t500 bt506.1 bt506.2)))) = some r := by first | (rw [hy503]; with_reducible exact H) | (have H2_ := (Option.bind_some _ _).symm.trans H; rw [hy503]; with_reducible exact H2_) | (have H2_ := (Option.bind_some _ _).symm.trans H; with_reducible exact H2_) | with_reducible exact H | (rw [hy503]; exact H) | exact H
 have Ny503 := Aside0.mk hy503
 clear hy503
 replace H := Option.bind_eq_some_iff.mp H
 obtain ⟨⟨t506, t507⟩, A50, H⟩ := H
 replace H : ((strength_Valid.f t497 t498).bind fun t509 => (if t509 = true then ((strength_Valid.f t499 t500).bind fun t510 => (if t510 = true then ((strength_Valid.f t506 t507).bind fun t511 => (if t511 = true then (if t497 < (-7) then (netlablaw02_StrengthElements.j0 k true t497 t498 t499 t500 t506 t507) else (if t498 > 7 then (netlablaw02_StrengthElements.j0 k true t497 t498 t499 t500 t506 t507) else (if t499 < (-7) then (netlablaw02_StrengthElements.j0 k true t497 t498 t499 t500 t506 t507) else (netlablaw02_StrengthElements.j0 k (decide (t500 > 7)) t497 t498 t499 t500 t506 t507)))) else (netlablaw02_StrengthElements.j0 k true t497 t498 t499 t500 t506 t507))) else (netlablaw02_StrengthElements.j0 k true t497 t498 t499 t500 t506 t507))) else (netlablaw02_StrengthElements.j0 k true t497 t498 t499 t500 t506 t507))) = some r := H
 have A5 := Aside0.mk A50
 clear A50
 have HC6 := Aside0.mk H
 clear H
 go_enter Tryd.func10, Tryd.ntmps10
 try go_wp2_with (first | ((with_reducible refine gate_dst (N := 2) rfl ?_); (try (refine gate_guard (by rfl) ?_; dsimp only)); refine box_event ?hg (N := 2) ?hd (cs := #[.int .i8 a0_0, .int .i8 a0_1]) (t := 35) ?hr ?_; (case hd => rfl); (case hg => rfl); (case hr => first | (go_simp; done) | (go_simp; rfl)); intro gb495 hg w7 hbox hb; have n0_ := Aside0.mk (below_step (by repeat (first | (with_reducible first | exact HB.out | apply below_alloc | apply pw_below_drewN | apply below_drew1) | exact HB.out)) hb); have n1_ := Aside0.mk (hbox); have n2_ := Aside0.mk ((by rw [hg]; exact (below_size (by repeat (first | (with_reducible first | exact HB.out | apply below_alloc | apply pw_below_drewN | apply below_drew1) | exact HB.out))) : w.heap.size ≤ gb495)); have n3_ := Aside0.mk ((by rw [hg]; exact (below_size (by repeat (first | (with_reducible first | exact HB.out | apply below_alloc | apply pw_below_drewN | apply below_drew1) | exact HB.out))) : w.heap.size ≤ gb495)); clear HB; have HB := n0_; have BK495 := n1_; have GW495 := n2_; have GE495 := n3_; clear n0_ n1_ n2_ n3_; clear hb hbox hg) | ((with_reducible refine gate_dst (N := 3) rfl ?_); (try (refine gate_guard (by rfl) ?_; dsimp only)); refine box_event ?hg (N := 3) ?hd (cs := #[.int .i8 a1_0, .int .i8 a1_1]) (t := 35) ?hr ?_; (case hd => rfl); (case hg => rfl); (case hr => first | (go_simp; done) | (go_simp; rfl)); intro gb496 hg w8 hbox hb; have n0_ := Aside0.mk (blk_below (g := gb495) (o := .cells #[.int .i8 a0_0, .int .i8 a0_1] 35 (0, 0)) (by (with_reducible repeat first | apply bN | apply bD | apply bA); exact BK495.out) hb); have n1_ := Aside0.mk (below_step (by repeat (first | (with_reducible first | exact HB.out | apply below_alloc | apply pw_below_drewN | apply below_drew1 | refine below_set ?_ GE495.out) | exact HB.out)) hb); have n2_ := Aside0.mk (hbox); have n3_ := Aside0.mk ((by rw [hg]; exact (below_size (by repeat (first | (with_reducible first | exact HB.out | apply below_alloc | apply pw_below_drewN | apply below_drew1 | refine below_set ?_ GE495.out) | exact HB.out))) : w.heap.size ≤ gb496)); have n4_ := Aside0.mk ((by rw [hg]; exact (below_size (by repeat (first | (with_reducible first | exact HB.out | apply below_alloc | apply pw_below_drewN | apply below_drew1 | refine below_set ?_ GE495.out) | exact HB.out))) : w.heap.size ≤ gb496)); have n5_ := Aside0.mk ((by rw [hg]; exact Nat.ne_of_lt (blk_lt (g := gb495) (o := .cells #[.int .i8 a0_0, .int .i8 a0_1] 35 (0, 0)) (by (with_reducible repeat first | apply bN | apply bD | apply bA); exact BK495.out)) : gb495 ≠ gb496)); have n6_ := Aside0.mk ((by rw [hg]; exact Nat.ne_of_gt (blk_lt (g := gb495) (o := .cells #[.int .i8 a0_0, .int .i8 a0_1] 35 (0, 0)) (by (with_reducible repeat first | apply bN | apply bD | apply bA); exact BK495.out)) : gb496 ≠ gb495)); clear BK495; clear HB; have BK495 := n0_; have HB := n1_; have BK496 := n2_; have GW496 := n3_; have GE496 := n4_; have NB495_496 := n5_; have NB496_495 := n6_; clear n0_ n1_ n2_ n3_ n4_ n5_ n6_; clear hb hbox hg))
 have n0_ := Aside0.mk (blk_drew BK495.out)
 have n1_ := Aside0.mk (blk_drew BK496.out)
 have n2_ := Aside0.mk (below_drew1 HB.out)
 clear BK495
 clear BK496
 clear HB
 have BK495 := n0_
 have BK496 := n1_
 have HB := n2_
 clear n0_ n1_ n2_
 refine start_ (n := 8) (S := fun w' => w'.cell? ⟨gb495, 0, none⟩ = some (.int .i8 a0_0) ∧ w'.cell? ⟨gb495, 1, none⟩ = some (.int .i8 a0_1) ∧ w'.cell? ⟨gb496, 0, none⟩ = some (.int .i8 a1_0) ∧ w'.cell? ⟨gb496, 1, none⟩ = some (.int .i8 a1_1)) (ds := []) #[false, false, false, false, false, false, false, false] (by kernel_rfl) rfl rfl ⟨(blk_cell BK495.out 0).trans rfl, (blk_cell BK495.out 1).trans rfl, (blk_cell BK496.out 0).trans rfl, (blk_cell BK496.out 1).trans rfl⟩ (fun hHeld => ?_); refine with_tabW netlablaw02_StrengthElements.tab1 netlablaw02_StrengthElements.bits1 (fun HT_ HW_ => ?_)
 generalize w8.drew = w9 at BK495 BK496 HB hHeld ⊢
 refine take_ (i := 0) (N := some 13) (v := ?_) (a' := ?_) #[true, false, false, false, false, false, false, false] rfl rfl (take_ofW HT_.out HW_.out (by kernel_rfl)) (fun _ _ _ h => h) (Or.inl ⟨by rfl, ?_⟩) hHeld ?_ ?_
 rotate_left
 ·rintro w' ⟨s0, s1, s2, s3⟩
  go_simp
  with_reducible rfl
 rotate_left
 ·simp only [Act.put, List.setIfInBounds_toArray, List.set_cons_zero, List.set_cons_succ, i64_w, i32_w]
  rfl
 refine take_ (i := 2) (N := some 15) (v := ?_) (a' := ?_) #[true, false, true, false, false, false, false, false] rfl rfl (take_ofW HT_.out HW_.out (by kernel_rfl)) (fun _ _ _ h => h) (Or.inl ⟨by rfl, ?_⟩) hHeld ?_ ?_
 rotate_left
 ·rintro w' ⟨s0, s1, s2, s3⟩
  go_simp
  with_reducible rfl
 rotate_left
 ·simp only [Act.put, List.setIfInBounds_toArray, List.set_cons_zero, List.set_cons_succ, i64_w, i32_w]
  rfl
 refine join_ (σ := Nat × Nat) 2 #[true, true, true, true, true, true, false, false] (fun s_ => [(14, .agg #[.int .i8 t497, .int .i8 t498]), (16, .agg #[.int .i8 t499, .int .i8 t500]), (5, .pointer (some ⟨s_.1, 0, none⟩)), (6, .pointer (some ⟨s_.2, 0, none⟩))]) (fun s_ w' => (w'.cell? ⟨gb495, 0, none⟩ = some (.int .i8 a0_0) ∧ w'.cell? ⟨gb495, 1, none⟩ = some (.int .i8 a0_1) ∧ w'.cell? ⟨gb496, 0, none⟩ = some (.int .i8 a1_0) ∧ w'.cell? ⟨gb496, 1, none⟩ = some (.int .i8 a1_1)) ∧ (w'.heap[gb495]? = some (.cells #[.int .i8 a0_0, .int .i8 a0_1] 35 (0, 0))) ∧ (w'.heap[gb496]? = some (.cells #[.int .i8 a1_0, .int .i8 a1_1] 35 (0, 0))) ∧ (w'.heap[s_.1]? = some (.cells #[.int .i8 0, .int .i8 0] 26 (0, 0))) ∧ (w'.heap[s_.2]? = some (.cells #[.int .i8 0, .int .i8 0] 26 (0, 0))) ∧ (w.heap.size ≤ s_.1) ∧ (w.heap.size ≤ s_.1) ∧ (gb495 ≠ s_.1) ∧ (s_.1 ≠ gb495) ∧ (gb496 ≠ s_.1) ∧ (s_.1 ≠ gb496) ∧ (s_.2 ≠ s_.1) ∧ (s_.1 ≠ s_.2) ∧ (w.heap.size ≤ s_.2) ∧ (w.heap.size ≤ s_.2) ∧ (gb495 ≠ s_.2) ∧ (s_.2 ≠ gb495) ∧ (gb496 ≠ s_.2) ∧ (s_.2 ≠ gb496) ∧ (Below w.heap.size w w')) ?_ ?_
 rotate_left
 ·intro hJ1_3_4_5
  refine join_ (σ := Nat) 3 #[true, true, true, true, true, false, false, false] (fun s_ => [(14, .agg #[.int .i8 t497, .int .i8 t498]), (16, .agg #[.int .i8 t499, .int .i8 t500]), (5, .pointer (some ⟨s_, 0, none⟩))]) (fun s_ w' => (w'.cell? ⟨gb495, 0, none⟩ = some (.int .i8 a0_0) ∧ w'.cell? ⟨gb495, 1, none⟩ = some (.int .i8 a0_1) ∧ w'.cell? ⟨gb496, 0, none⟩ = some (.int .i8 a1_0) ∧ w'.cell? ⟨gb496, 1, none⟩ = some (.int .i8 a1_1)) ∧ (w'.heap[gb495]? = some (.cells #[.int .i8 a0_0, .int .i8 a0_1] 35 (0, 0))) ∧ (w'.heap[gb496]? = some (.cells #[.int .i8 a1_0, .int .i8 a1_1] 35 (0, 0))) ∧ (w'.heap[s_]? = some (.cells #[.int .i8 0, .int .i8 0] 26 (0, 0))) ∧ (w.heap.size ≤ s_) ∧ (w.heap.size ≤ s_) ∧ (gb495 ≠ s_) ∧ (s_ ≠ gb495) ∧ (gb496 ≠ s_) ∧ (s_ ≠ gb496) ∧ (Below w.heap.size w w')) ?_ ?_
  rotate_left
  ·intro hJ1_3_4
   refine join_ (σ := Nat) 3 #[true, true, true, true, false, true, false, false] (fun s_ => [(14, .agg #[.int .i8 t497, .int .i8 t498]), (16, .agg #[.int .i8 t499, .int .i8 t500]), (6, .pointer (some ⟨s_, 0, none⟩))]) (fun s_ w' => (w'.cell? ⟨gb495, 0, none⟩ = some (.int .i8 a0_0) ∧ w'.cell? ⟨gb495, 1, none⟩ = some (.int .i8 a0_1) ∧ w'.cell? ⟨gb496, 0, none⟩ = some (.int .i8 a1_0) ∧ w'.cell? ⟨gb496, 1, none⟩ = some (.int .i8 a1_1)) ∧ (w'.heap[gb495]? = some (.cells #[.int .i8 a0_0, .int .i8 a0_1] 35 (0, 0))) ∧ (w'.heap[gb496]? = some (.cells #[.int .i8 a1_0, .int .i8 a1_1] 35 (0, 0))) ∧ (w'.heap[s_]? = some (.cells #[.int .i8 0, .int .i8 0] 26 (0, 0))) ∧ (w.heap.size ≤ s_) ∧ (w.heap.size ≤ s_) ∧ (gb495 ≠ s_) ∧ (s_ ≠ gb495) ∧ (gb496 ≠ s_) ∧ (s_ ≠ gb496) ∧ (Below w.heap.size w w')) ?_ ?_
   rotate_left
   ·intro hJ1_3_5
    refine join_ (σ := Nat × Nat) 3 #[true, true, true, false, true, true, false, false] (fun s_ => [(14, .agg #[.int .i8 t497, .int .i8 t498]), (5, .pointer (some ⟨s_.1, 0, none⟩)), (6, .pointer (some ⟨s_.2, 0, none⟩))]) (fun s_ w' => (w'.cell? ⟨gb495, 0, none⟩ = some (.int .i8 a0_0) ∧ w'.cell? ⟨gb495, 1, none⟩ = some (.int .i8 a0_1) ∧ w'.cell? ⟨gb496, 0, none⟩ = some (.int .i8 a1_0) ∧ w'.cell? ⟨gb496, 1, none⟩ = some (.int .i8 a1_1)) ∧ (w'.heap[gb495]? = some (.cells #[.int .i8 a0_0, .int .i8 a0_1] 35 (0, 0))) ∧ (w'.heap[gb496]? = some (.cells #[.int .i8 a1_0, .int .i8 a1_1] 35 (0, 0))) ∧ (w'.heap[s_.1]? = some (.cells #[.int .i8 0, .int .i8 0] 26 (0, 0))) ∧ (w'.heap[s_.2]? = some (.cells #[.int .i8 0, .int .i8 0] 26 (0, 0))) ∧ (w.heap.size ≤ s_.1) ∧ (w.heap.size ≤ s_.1) ∧ (gb495 ≠ s_.1) ∧ (s_.1 ≠ gb495) ∧ (gb496 ≠ s_.1) ∧ (s_.1 ≠ gb496) ∧ (s_.2 ≠ s_.1) ∧ (s_.1 ≠ s_.2) ∧ (w.heap.size ≤ s_.2) ∧ (w.heap.size ≤ s_.2) ∧ (gb495 ≠ s_.2) ∧ (s_.2 ≠ gb495) ∧ (gb496 ≠ s_.2) ∧ (s_.2 ≠ gb496) ∧ (Below w.heap.size w w')) ?_ ?_
    rotate_left
    ·intro hJ1_4_5
     refine join_ (σ := Unit) 4 #[true, true, true, true, false, false, false, false] (fun s_ => [(14, .agg #[.int .i8 t497, .int .i8 t498]), (16, .agg #[.int .i8 t499, .int .i8 t500])]) (fun s_ w' => (w'.cell? ⟨gb495, 0, none⟩ = some (.int .i8 a0_0) ∧ w'.cell? ⟨gb495, 1, none⟩ = some (.int .i8 a0_1) ∧ w'.cell? ⟨gb496, 0, none⟩ = some (.int .i8 a1_0) ∧ w'.cell? ⟨gb496, 1, none⟩ = some (.int .i8 a1_1)) ∧ (w'.heap[gb495]? = some (.cells #[.int .i8 a0_0, .int .i8 a0_1] 35 (0, 0))) ∧ (w'.heap[gb496]? = some (.cells #[.int .i8 a1_0, .int .i8 a1_1] 35 (0, 0))) ∧ (Below w.heap.size w w')) ?_ ?_
     rotate_left
     ·intro hJ1_3
      refine join_ (σ := Nat) 4 #[true, true, true, false, true, false, false, false] (fun s_ => [(14, .agg #[.int .i8 t497, .int .i8 t498]), (5, .pointer (some ⟨s_, 0, none⟩))]) (fun s_ w' => (w'.cell? ⟨gb495, 0, none⟩ = some (.int .i8 a0_0) ∧ w'.cell? ⟨gb495, 1, none⟩ = some (.int .i8 a0_1) ∧ w'.cell? ⟨gb496, 0, none⟩ = some (.int .i8 a1_0) ∧ w'.cell? ⟨gb496, 1, none⟩ = some (.int .i8 a1_1)) ∧ (w'.heap[gb495]? = some (.cells #[.int .i8 a0_0, .int .i8 a0_1] 35 (0, 0))) ∧ (w'.heap[gb496]? = some (.cells #[.int .i8 a1_0, .int .i8 a1_1] 35 (0, 0))) ∧ (w'.heap[s_]? = some (.cells #[.int .i8 0, .int .i8 0] 26 (0, 0))) ∧ (w.heap.size ≤ s_) ∧ (w.heap.size ≤ s_) ∧ (gb495 ≠ s_) ∧ (s_ ≠ gb495) ∧ (gb496 ≠ s_) ∧ (s_ ≠ gb496) ∧ (Below w.heap.size w w')) ?_ ?_
      rotate_left
      ·intro hJ1_4
       refine join_ (σ := Nat) 4 #[true, true, true, false, false, true, false, false] (fun s_ => [(14, .agg #[.int .i8 t497, .int .i8 t498]), (6, .pointer (some ⟨s_, 0, none⟩))]) (fun s_ w' => (w'.cell? ⟨gb495, 0, none⟩ = some (.int .i8 a0_0) ∧ w'.cell? ⟨gb495, 1, none⟩ = some (.int .i8 a0_1) ∧ w'.cell? ⟨gb496, 0, none⟩ = some (.int .i8 a1_0) ∧ w'.cell? ⟨gb496, 1, none⟩ = some (.int .i8 a1_1)) ∧ (w'.heap[gb495]? = some (.cells #[.int .i8 a0_0, .int .i8 a0_1] 35 (0, 0))) ∧ (w'.heap[gb496]? = some (.cells #[.int .i8 a1_0, .int .i8 a1_1] 35 (0, 0))) ∧ (w'.heap[s_]? = some (.cells #[.int .i8 0, .int .i8 0] 26 (0, 0))) ∧ (w.heap.size ≤ s_) ∧ (w.heap.size ≤ s_) ∧ (gb495 ≠ s_) ∧ (s_ ≠ gb495) ∧ (gb496 ≠ s_) ∧ (s_ ≠ gb496) ∧ (Below w.heap.size w w')) ?_ ?_
       rotate_left
       ·intro hJ1_5
        refine join_ (σ := Nat × Nat) 4 #[true, false, true, false, true, true, false, false] (fun s_ => [(5, .pointer (some ⟨s_.1, 0, none⟩)), (6, .pointer (some ⟨s_.2, 0, none⟩))]) (fun s_ w' => (w'.cell? ⟨gb495, 0, none⟩ = some (.int .i8 a0_0) ∧ w'.cell? ⟨gb495, 1, none⟩ = some (.int .i8 a0_1) ∧ w'.cell? ⟨gb496, 0, none⟩ = some (.int .i8 a1_0) ∧ w'.cell? ⟨gb496, 1, none⟩ = some (.int .i8 a1_1)) ∧ (w'.heap[gb495]? = some (.cells #[.int .i8 a0_0, .int .i8 a0_1] 35 (0, 0))) ∧ (w'.heap[gb496]? = some (.cells #[.int .i8 a1_0, .int .i8 a1_1] 35 (0, 0))) ∧ (w'.heap[s_.1]? = some (.cells #[.int .i8 0, .int .i8 0] 26 (0, 0))) ∧ (w'.heap[s_.2]? = some (.cells #[.int .i8 0, .int .i8 0] 26 (0, 0))) ∧ (w.heap.size ≤ s_.1) ∧ (w.heap.size ≤ s_.1) ∧ (gb495 ≠ s_.1) ∧ (s_.1 ≠ gb495) ∧ (gb496 ≠ s_.1) ∧ (s_.1 ≠ gb496) ∧ (s_.2 ≠ s_.1) ∧ (s_.1 ≠ s_.2) ∧ (w.heap.size ≤ s_.2) ∧ (w.heap.size ≤ s_.2) ∧ (gb495 ≠ s_.2) ∧ (s_.2 ≠ gb495) ∧ (gb496 ≠ s_.2) ∧ (s_.2 ≠ gb496) ∧ (Below w.heap.size w w')) ?_ ?_
        rotate_left
        ·intro hJ4_5
         refine join_ (σ := Unit) 5 #[true, true, true, false, false, false, false, false] (fun s_ => [(14, .agg #[.int .i8 t497, .int .i8 t498])]) (fun s_ w' => (w'.cell? ⟨gb495, 0, none⟩ = some (.int .i8 a0_0) ∧ w'.cell? ⟨gb495, 1, none⟩ = some (.int .i8 a0_1) ∧ w'.cell? ⟨gb496, 0, none⟩ = some (.int .i8 a1_0) ∧ w'.cell? ⟨gb496, 1, none⟩ = some (.int .i8 a1_1)) ∧ (w'.heap[gb495]? = some (.cells #[.int .i8 a0_0, .int .i8 a0_1] 35 (0, 0))) ∧ (w'.heap[gb496]? = some (.cells #[.int .i8 a1_0, .int .i8 a1_1] 35 (0, 0))) ∧ (Below w.heap.size w w')) ?_ ?_
         rotate_left
         ·intro hJ1
          refine join_ (σ := Nat) 5 #[true, false, true, false, true, false, false, false] (fun s_ => [(5, .pointer (some ⟨s_, 0, none⟩))]) (fun s_ w' => (w'.cell? ⟨gb495, 0, none⟩ = some (.int .i8 a0_0) ∧ w'.cell? ⟨gb495, 1, none⟩ = some (.int .i8 a0_1) ∧ w'.cell? ⟨gb496, 0, none⟩ = some (.int .i8 a1_0) ∧ w'.cell? ⟨gb496, 1, none⟩ = some (.int .i8 a1_1)) ∧ (w'.heap[gb495]? = some (.cells #[.int .i8 a0_0, .int .i8 a0_1] 35 (0, 0))) ∧ (w'.heap[gb496]? = some (.cells #[.int .i8 a1_0, .int .i8 a1_1] 35 (0, 0))) ∧ (w'.heap[s_]? = some (.cells #[.int .i8 0, .int .i8 0] 26 (0, 0))) ∧ (w.heap.size ≤ s_) ∧ (w.heap.size ≤ s_) ∧ (gb495 ≠ s_) ∧ (s_ ≠ gb495) ∧ (gb496 ≠ s_) ∧ (s_ ≠ gb496) ∧ (Below w.heap.size w w')) ?_ ?_
          rotate_left
          ·intro hJ4
           refine join_ (σ := Nat) 5 #[true, false, true, false, false, true, false, false] (fun s_ => [(6, .pointer (some ⟨s_, 0, none⟩))]) (fun s_ w' => (w'.cell? ⟨gb495, 0, none⟩ = some (.int .i8 a0_0) ∧ w'.cell? ⟨gb495, 1, none⟩ = some (.int .i8 a0_1) ∧ w'.cell? ⟨gb496, 0, none⟩ = some (.int .i8 a1_0) ∧ w'.cell? ⟨gb496, 1, none⟩ = some (.int .i8 a1_1)) ∧ (w'.heap[gb495]? = some (.cells #[.int .i8 a0_0, .int .i8 a0_1] 35 (0, 0))) ∧ (w'.heap[gb496]? = some (.cells #[.int .i8 a1_0, .int .i8 a1_1] 35 (0, 0))) ∧ (w'.heap[s_]? = some (.cells #[.int .i8 0, .int .i8 0] 26 (0, 0))) ∧ (w.heap.size ≤ s_) ∧ (w.heap.size ≤ s_) ∧ (gb495 ≠ s_) ∧ (s_ ≠ gb495) ∧ (gb496 ≠ s_) ∧ (s_ ≠ gb496) ∧ (Below w.heap.size w w')) ?_ ?_
           rotate_left
           ·intro hJ5
            refine three_ (i := 1) (j := 4) (k := 5) (Ni := some 14) (Nj := some 5) (Nk := some 6) #[true, true, true, false, false, false, false, false] #[true, false, true, false, true, false, false, false] #[true, false, true, false, false, true, false, false] rfl rfl rfl rfl rfl rfl (three_of HT_.out (by kernel_rfl)) (by decide) (by decide) (by decide) (fun K hK => ?_) (fun K hK => ?_) (fun K hK => ?_)
            ·skip
             refine goes_ Tryd.func22 (by kernel_rfl) rfl #[.agg #[.int .i8 a0_0, .int .i8 a0_1]] (by rfl) rfl rfl (by (try simp only [List.map_toArray, List.map_cons, List.map_nil]); first | done | rfl | (simp only [List.length_drop, List.length_take]; rfl)) ?_
             with_reducible refine (strength_Norm.calls a0_0 a0_1 t497 t498 _ A3.out).mono ?_
             rintro e w10 ⟨rfl, hb⟩
             refine ⟨_, rfl, ?_⟩
             have n0_ := Aside0.mk (blk_below (g := gb495) (o := .cells #[.int .i8 a0_0, .int .i8 a0_1] 35 (0, 0)) (by (with_reducible repeat first | apply bN | apply bD | apply bA); exact BK495.out) hb)
             have n1_ := Aside0.mk (blk_below (g := gb496) (o := .cells #[.int .i8 a1_0, .int .i8 a1_1] 35 (0, 0)) (by (with_reducible repeat first | apply bN | apply bD | apply bA); exact BK496.out) hb)
             have n2_ := Aside0.mk (below_step (by repeat (first | (with_reducible first | exact HB.out | apply below_alloc | apply pw_below_drewN | apply below_drew1 | refine below_set ?_ GE495.out | refine below_set ?_ GE496.out) | exact HB.out)) hb)
             clear BK495
             clear BK496
             clear HB
             have BK495 := n0_
             have BK496 := n1_
             have HB := n2_
             clear n0_ n1_ n2_
             (try clear hb)
             (try clear hb2)
             (try clear hk)
             (try clear hi)
             refine hK.out _ _ ⟨(blk_cell BK495.out 0).trans rfl, (blk_cell BK495.out 1).trans rfl, (blk_cell BK496.out 0).trans rfl, (blk_cell BK496.out 1).trans rfl⟩ (fun hHeld => ?_)
             clear hK K
             refine norm_ (a' := ?_) ?_ ?_
             rotate_left
             ·show Act.put _ (some 14) _ = _
              simp only [Act.put, List.setIfInBounds_toArray, List.set_cons_zero, List.set_cons_succ, i64_w, i32_w]
              rfl
             exact norm_ (by first | (simp only [putAll, Act.put, List.setIfInBounds_toArray, List.set_cons_zero, List.set_cons_succ]; done) | (simp only [putAll, Act.put, List.setIfInBounds_toArray, List.set_cons_zero, List.set_cons_succ]; rfl)) (hJ1 () _ ⟨hHeld, (by (with_reducible repeat first | apply bN | apply bD | apply bA); exact BK495.out), (by (with_reducible repeat first | apply bN | apply bD | apply bA); exact BK496.out), (by repeat (first | (with_reducible first | exact HB.out | apply below_alloc | apply pw_below_drewN | apply below_drew1 | refine below_set ?_ GE495.out | refine below_set ?_ GE496.out) | exact HB.out))⟩)
            ·skip
             refine box_step ?hg (N := 5) ?hd (cs := #[.int .i8 0, .int .i8 0]) (t := 26) ?hr ?_; (case hd => rfl); (case hg => rfl); (case hr => first | (go_simp; done) | (go_simp; rfl))
             intro gb501 hg w10 hbox hb
             have n0_ := Aside0.mk (blk_below (g := gb495) (o := .cells #[.int .i8 a0_0, .int .i8 a0_1] 35 (0, 0)) (by (with_reducible repeat first | apply bN | apply bD | apply bA); exact BK495.out) hb)
             have n1_ := Aside0.mk (blk_below (g := gb496) (o := .cells #[.int .i8 a1_0, .int .i8 a1_1] 35 (0, 0)) (by (with_reducible repeat first | apply bN | apply bD | apply bA); exact BK496.out) hb)
             have n2_ := Aside0.mk (below_step (by repeat (first | (with_reducible first | exact HB.out | apply below_alloc | apply pw_below_drewN | apply below_drew1 | refine below_set ?_ GE495.out | refine below_set ?_ GE496.out) | exact HB.out)) hb)
             have n3_ := Aside0.mk (hbox)
             have n4_ := Aside0.mk ((by rw [hg]; exact (below_size (by repeat (first | (with_reducible first | exact HB.out | apply below_alloc | apply pw_below_drewN | apply below_drew1 | refine below_set ?_ GE495.out | refine below_set ?_ GE496.out) | exact HB.out))) : w.heap.size ≤ gb501))
             have n5_ := Aside0.mk ((by rw [hg]; exact (below_size (by repeat (first | (with_reducible first | exact HB.out | apply below_alloc | apply pw_below_drewN | apply below_drew1 | refine below_set ?_ GE495.out | refine below_set ?_ GE496.out) | exact HB.out))) : w.heap.size ≤ gb501))
             have n6_ := Aside0.mk ((by rw [hg]; exact Nat.ne_of_lt (blk_lt (g := gb495) (o := .cells #[.int .i8 a0_0, .int .i8 a0_1] 35 (0, 0)) (by (with_reducible repeat first | apply bN | apply bD | apply bA); exact BK495.out)) : gb495 ≠ gb501))
             have n7_ := Aside0.mk ((by rw [hg]; exact Nat.ne_of_gt (blk_lt (g := gb495) (o := .cells #[.int .i8 a0_0, .int .i8 a0_1] 35 (0, 0)) (by (with_reducible repeat first | apply bN | apply bD | apply bA); exact BK495.out)) : gb501 ≠ gb495))
             have n8_ := Aside0.mk ((by rw [hg]; exact Nat.ne_of_lt (blk_lt (g := gb496) (o := .cells #[.int .i8 a1_0, .int .i8 a1_1] 35 (0, 0)) (by (with_reducible repeat first | apply bN | apply bD | apply bA); exact BK496.out)) : gb496 ≠ gb501))
             have n9_ := Aside0.mk ((by rw [hg]; exact Nat.ne_of_gt (blk_lt (g := gb496) (o := .cells #[.int .i8 a1_0, .int .i8 a1_1] 35 (0, 0)) (by (with_reducible repeat first | apply bN | apply bD | apply bA); exact BK496.out)) : gb501 ≠ gb496))
             clear BK495
             clear BK496
             clear HB
             have BK495 := n0_
             have BK496 := n1_
             have HB := n2_
             have BK501 := n3_
             have GW501 := n4_
             have GE501 := n5_
             have NB495_501 := n6_
             have NB501_495 := n7_
             have NB496_501 := n8_
             have NB501_496 := n9_
             clear n0_ n1_ n2_ n3_ n4_ n5_ n6_ n7_ n8_ n9_
             clear hb hbox hg
             refine hK.out _ _ ⟨(blk_cell BK495.out 0).trans rfl, (blk_cell BK495.out 1).trans rfl, (blk_cell BK496.out 0).trans rfl, (blk_cell BK496.out 1).trans rfl⟩ (fun hHeld => ?_)
             clear hK K
             refine norm_ (a' := ?_) ?_ ?_
             rotate_left
             ·show Act.put _ (some 5) _ = _
              simp only [Act.put, List.setIfInBounds_toArray, List.set_cons_zero, List.set_cons_succ, i64_w, i32_w]
              rfl
             exact norm_ (by first | (simp only [putAll, Act.put, List.setIfInBounds_toArray, List.set_cons_zero, List.set_cons_succ]; done) | (simp only [putAll, Act.put, List.setIfInBounds_toArray, List.set_cons_zero, List.set_cons_succ]; rfl)) (hJ4 (gb501) _ ⟨hHeld, (by (with_reducible repeat first | apply bN | apply bD | apply bA); exact BK495.out), (by (with_reducible repeat first | apply bN | apply bD | apply bA); exact BK496.out), (by (with_reducible repeat first | apply bN | apply bD | apply bA); exact BK501.out), GW501.out, GE501.out, NB495_501.out, NB501_495.out, NB496_501.out, NB501_496.out, (by repeat (first | (with_reducible first | exact HB.out | apply below_alloc | apply pw_below_drewN | apply below_drew1 | refine below_set ?_ GE495.out | refine below_set ?_ GE496.out | refine below_set ?_ GE501.out) | exact HB.out))⟩)
            ·skip
             refine box_step ?hg (N := 6) ?hd (cs := #[.int .i8 0, .int .i8 0]) (t := 26) ?hr ?_; (case hd => rfl); (case hg => rfl); (case hr => first | (go_simp; done) | (go_simp; rfl))
             intro gb502 hg w10 hbox hb
             have n0_ := Aside0.mk (blk_below (g := gb495) (o := .cells #[.int .i8 a0_0, .int .i8 a0_1] 35 (0, 0)) (by (with_reducible repeat first | apply bN | apply bD | apply bA); exact BK495.out) hb)
             have n1_ := Aside0.mk (blk_below (g := gb496) (o := .cells #[.int .i8 a1_0, .int .i8 a1_1] 35 (0, 0)) (by (with_reducible repeat first | apply bN | apply bD | apply bA); exact BK496.out) hb)
             have n2_ := Aside0.mk (below_step (by repeat (first | (with_reducible first | exact HB.out | apply below_alloc | apply pw_below_drewN | apply below_drew1 | refine below_set ?_ GE495.out | refine below_set ?_ GE496.out) | exact HB.out)) hb)
             have n3_ := Aside0.mk (hbox)
             have n4_ := Aside0.mk ((by rw [hg]; exact (below_size (by repeat (first | (with_reducible first | exact HB.out | apply below_alloc | apply pw_below_drewN | apply below_drew1 | refine below_set ?_ GE495.out | refine below_set ?_ GE496.out) | exact HB.out))) : w.heap.size ≤ gb502))
             have n5_ := Aside0.mk ((by rw [hg]; exact (below_size (by repeat (first | (with_reducible first | exact HB.out | apply below_alloc | apply pw_below_drewN | apply below_drew1 | refine below_set ?_ GE495.out | refine below_set ?_ GE496.out) | exact HB.out))) : w.heap.size ≤ gb502))
             have n6_ := Aside0.mk ((by rw [hg]; exact Nat.ne_of_lt (blk_lt (g := gb495) (o := .cells #[.int .i8 a0_0, .int .i8 a0_1] 35 (0, 0)) (by (with_reducible repeat first | apply bN | apply bD | apply bA); exact BK495.out)) : gb495 ≠ gb502))
             have n7_ := Aside0.mk ((by rw [hg]; exact Nat.ne_of_gt (blk_lt (g := gb495) (o := .cells #[.int .i8 a0_0, .int .i8 a0_1] 35 (0, 0)) (by (with_reducible repeat first | apply bN | apply bD | apply bA); exact BK495.out)) : gb502 ≠ gb495))
             have n8_ := Aside0.mk ((by rw [hg]; exact Nat.ne_of_lt (blk_lt (g := gb496) (o := .cells #[.int .i8 a1_0, .int .i8 a1_1] 35 (0, 0)) (by (with_reducible repeat first | apply bN | apply bD | apply bA); exact BK496.out)) : gb496 ≠ gb502))
             have n9_ := Aside0.mk ((by rw [hg]; exact Nat.ne_of_gt (blk_lt (g := gb496) (o := .cells #[.int .i8 a1_0, .int .i8 a1_1] 35 (0, 0)) (by (with_reducible repeat first | apply bN | apply bD | apply bA); exact BK496.out)) : gb502 ≠ gb496))
             clear BK495
             clear BK496
             clear HB
             have BK495 := n0_
             have BK496 := n1_
             have HB := n2_
             have BK502 := n3_
             have GW502 := n4_
             have GE502 := n5_
             have NB495_502 := n6_
             have NB502_495 := n7_
             have NB496_502 := n8_
             have NB502_496 := n9_
             clear n0_ n1_ n2_ n3_ n4_ n5_ n6_ n7_ n8_ n9_
             clear hb hbox hg
             refine hK.out _ _ ⟨(blk_cell BK495.out 0).trans rfl, (blk_cell BK495.out 1).trans rfl, (blk_cell BK496.out 0).trans rfl, (blk_cell BK496.out 1).trans rfl⟩ (fun hHeld => ?_)
             clear hK K
             refine norm_ (a' := ?_) ?_ ?_
             rotate_left
             ·show Act.put _ (some 6) _ = _
              simp only [Act.put, List.setIfInBounds_toArray, List.set_cons_zero, List.set_cons_succ, i64_w, i32_w]
              rfl
             exact norm_ (by first | (simp only [putAll, Act.put, List.setIfInBounds_toArray, List.set_cons_zero, List.set_cons_succ]; done) | (simp only [putAll, Act.put, List.setIfInBounds_toArray, List.set_cons_zero, List.set_cons_succ]; rfl)) (hJ5 (gb502) _ ⟨hHeld, (by (with_reducible repeat first | apply bN | apply bD | apply bA); exact BK495.out), (by (with_reducible repeat first | apply bN | apply bD | apply bA); exact BK496.out), (by (with_reducible repeat first | apply bN | apply bD | apply bA); exact BK502.out), GW502.out, GE502.out, NB495_502.out, NB502_495.out, NB496_502.out, NB502_496.out, (by repeat (first | (with_reducible first | exact HB.out | apply below_alloc | apply pw_below_drewN | apply below_drew1 | refine below_set ?_ GE495.out | refine below_set ?_ GE496.out | refine below_set ?_ GE502.out) | exact HB.out))⟩)
           ·skip
            rintro gb502 w11 ⟨hS_, h0_, h1_, h2_, h3_, h4_, h5_, h6_, h7_, h8_, h9_⟩
            have n0_ : Aside0 (w11.heap[gb495]? = some (.cells #[.int .i8 a0_0, .int .i8 a0_1] 35 (0, 0))) := ⟨h0_⟩
            have n1_ : Aside0 (w11.heap[gb496]? = some (.cells #[.int .i8 a1_0, .int .i8 a1_1] 35 (0, 0))) := ⟨h1_⟩
            have n2_ : Aside0 (w11.heap[gb502]? = some (.cells #[.int .i8 0, .int .i8 0] 26 (0, 0))) := ⟨h2_⟩
            have n3_ : Aside0 (w.heap.size ≤ gb502) := ⟨h3_⟩
            have n4_ : Aside0 (w.heap.size ≤ gb502) := ⟨h4_⟩
            have n5_ : Aside0 (gb495 ≠ gb502) := ⟨h5_⟩
            have n6_ : Aside0 (gb502 ≠ gb495) := ⟨h6_⟩
            have n7_ : Aside0 (gb496 ≠ gb502) := ⟨h7_⟩
            have n8_ : Aside0 (gb502 ≠ gb496) := ⟨h8_⟩
            have n9_ : Aside0 (Below w.heap.size w w11) := ⟨h9_⟩
            clear BK495
            clear BK496
            clear HB
            clear h0_ h1_ h2_ h3_ h4_ h5_ h6_ h7_ h8_ h9_
            have BK495 := n0_
            have BK496 := n1_
            have BK502 := n2_
            have GW502 := n3_
            have GE502 := n4_
            have NB495_502 := n5_
            have NB502_495 := n6_
            have NB496_502 := n7_
            have NB502_496 := n8_
            have HB := n9_
            clear n0_ n1_ n2_ n3_ n4_ n5_ n6_ n7_ n8_ n9_
            have hHeld : w11.cell? ⟨gb495, 0, none⟩ = some (.int .i8 a0_0) ∧ w11.cell? ⟨gb495, 1, none⟩ = some (.int .i8 a0_1) ∧ w11.cell? ⟨gb496, 0, none⟩ = some (.int .i8 a1_0) ∧ w11.cell? ⟨gb496, 1, none⟩ = some (.int .i8 a1_1) := hS_
            refine norm_ (a' := ?_) ?_ ?_
            rotate_left
            ·simp only [putAll, Act.put, List.setIfInBounds_toArray, List.set_cons_zero, List.set_cons_succ]
             rfl
            refine two_ (i := 1) (j := 4) (Ni := some 14) (Nj := some 5) #[true, true, true, false, false, true, false, false] #[true, false, true, false, true, true, false, false] rfl rfl rfl rfl (two_of HT_.out (by kernel_rfl)) (by decide) (by decide) (fun K hK => ?_) (fun K hK => ?_)
            ·skip
             refine goes_ Tryd.func22 (by kernel_rfl) rfl #[.agg #[.int .i8 a0_0, .int .i8 a0_1]] (by rfl) rfl rfl (by (try simp only [List.map_toArray, List.map_cons, List.map_nil]); first | done | rfl | (simp only [List.length_drop, List.length_take]; rfl)) ?_
             with_reducible refine (strength_Norm.calls a0_0 a0_1 t497 t498 _ A3.out).mono ?_
             rintro e w12 ⟨rfl, hb⟩
             refine ⟨_, rfl, ?_⟩
             have n0_ := Aside0.mk (blk_below (g := gb495) (o := .cells #[.int .i8 a0_0, .int .i8 a0_1] 35 (0, 0)) (by (with_reducible repeat first | apply bN | apply bD | apply bA); exact BK495.out) hb)
             have n1_ := Aside0.mk (blk_below (g := gb496) (o := .cells #[.int .i8 a1_0, .int .i8 a1_1] 35 (0, 0)) (by (with_reducible repeat first | apply bN | apply bD | apply bA); exact BK496.out) hb)
             have n2_ := Aside0.mk (blk_below (g := gb502) (o := .cells #[.int .i8 0, .int .i8 0] 26 (0, 0)) (by (with_reducible repeat first | apply bN | apply bD | apply bA); exact BK502.out) hb)
             have n3_ := Aside0.mk (below_step (by repeat (first | (with_reducible first | exact HB.out | apply below_alloc | apply pw_below_drewN | apply below_drew1 | refine below_set ?_ GE495.out | refine below_set ?_ GE496.out | refine below_set ?_ GE502.out) | exact HB.out)) hb)
             clear BK495
             clear BK496
             clear BK502
             clear HB
             have BK495 := n0_
             have BK496 := n1_
             have BK502 := n2_
             have HB := n3_
             clear n0_ n1_ n2_ n3_
             (try clear hb)
             (try clear hb2)
             (try clear hk)
             (try clear hi)
             refine hK.out _ _ ⟨(blk_cell BK495.out 0).trans rfl, (blk_cell BK495.out 1).trans rfl, (blk_cell BK496.out 0).trans rfl, (blk_cell BK496.out 1).trans rfl⟩ (fun hHeld => ?_)
             clear hK K
             refine norm_ (a' := ?_) ?_ ?_
             rotate_left
             ·show Act.put _ (some 14) _ = _
              simp only [Act.put, List.setIfInBounds_toArray, List.set_cons_zero, List.set_cons_succ, i64_w, i32_w]
              rfl
             exact norm_ (by first | (simp only [putAll, Act.put, List.setIfInBounds_toArray, List.set_cons_zero, List.set_cons_succ]; done) | (simp only [putAll, Act.put, List.setIfInBounds_toArray, List.set_cons_zero, List.set_cons_succ]; rfl)) (hJ1_5 (gb502) _ ⟨hHeld, (by (with_reducible repeat first | apply bN | apply bD | apply bA); exact BK495.out), (by (with_reducible repeat first | apply bN | apply bD | apply bA); exact BK496.out), (by (with_reducible repeat first | apply bN | apply bD | apply bA); exact BK502.out), GW502.out, GE502.out, NB495_502.out, NB502_495.out, NB496_502.out, NB502_496.out, (by repeat (first | (with_reducible first | exact HB.out | apply below_alloc | apply pw_below_drewN | apply below_drew1 | refine below_set ?_ GE495.out | refine below_set ?_ GE496.out | refine below_set ?_ GE502.out) | exact HB.out))⟩)
            ·skip
             refine box_step ?hg (N := 5) ?hd (cs := #[.int .i8 0, .int .i8 0]) (t := 26) ?hr ?_; (case hd => rfl); (case hg => rfl); (case hr => first | (go_simp; done) | (go_simp; rfl))
             intro gb501 hg w12 hbox hb
             have n0_ := Aside0.mk (blk_below (g := gb495) (o := .cells #[.int .i8 a0_0, .int .i8 a0_1] 35 (0, 0)) (by (with_reducible repeat first | apply bN | apply bD | apply bA); exact BK495.out) hb)
             have n1_ := Aside0.mk (blk_below (g := gb496) (o := .cells #[.int .i8 a1_0, .int .i8 a1_1] 35 (0, 0)) (by (with_reducible repeat first | apply bN | apply bD | apply bA); exact BK496.out) hb)
             have n2_ := Aside0.mk (blk_below (g := gb502) (o := .cells #[.int .i8 0, .int .i8 0] 26 (0, 0)) (by (with_reducible repeat first | apply bN | apply bD | apply bA); exact BK502.out) hb)
             have n3_ := Aside0.mk (below_step (by repeat (first | (with_reducible first | exact HB.out | apply below_alloc | apply pw_below_drewN | apply below_drew1 | refine below_set ?_ GE495.out | refine below_set ?_ GE496.out | refine below_set ?_ GE502.out) | exact HB.out)) hb)
             have n4_ := Aside0.mk (hbox)
             have n5_ := Aside0.mk ((by rw [hg]; exact (below_size (by repeat (first | (with_reducible first | exact HB.out | apply below_alloc | apply pw_below_drewN | apply below_drew1 | refine below_set ?_ GE495.out | refine below_set ?_ GE496.out | refine below_set ?_ GE502.out) | exact HB.out))) : w.heap.size ≤ gb501))
             have n6_ := Aside0.mk ((by rw [hg]; exact (below_size (by repeat (first | (with_reducible first | exact HB.out | apply below_alloc | apply pw_below_drewN | apply below_drew1 | refine below_set ?_ GE495.out | refine below_set ?_ GE496.out | refine below_set ?_ GE502.out) | exact HB.out))) : w.heap.size ≤ gb501))
             have n7_ := Aside0.mk ((by rw [hg]; exact Nat.ne_of_lt (blk_lt (g := gb495) (o := .cells #[.int .i8 a0_0, .int .i8 a0_1] 35 (0, 0)) (by (with_reducible repeat first | apply bN | apply bD | apply bA); exact BK495.out)) : gb495 ≠ gb501))
             have n8_ := Aside0.mk ((by rw [hg]; exact Nat.ne_of_gt (blk_lt (g := gb495) (o := .cells #[.int .i8 a0_0, .int .i8 a0_1] 35 (0, 0)) (by (with_reducible repeat first | apply bN | apply bD | apply bA); exact BK495.out)) : gb501 ≠ gb495))
             have n9_ := Aside0.mk ((by rw [hg]; exact Nat.ne_of_lt (blk_lt (g := gb496) (o := .cells #[.int .i8 a1_0, .int .i8 a1_1] 35 (0, 0)) (by (with_reducible repeat first | apply bN | apply bD | apply bA); exact BK496.out)) : gb496 ≠ gb501))
             have n10_ := Aside0.mk ((by rw [hg]; exact Nat.ne_of_gt (blk_lt (g := gb496) (o := .cells #[.int .i8 a1_0, .int .i8 a1_1] 35 (0, 0)) (by (with_reducible repeat first | apply bN | apply bD | apply bA); exact BK496.out)) : gb501 ≠ gb496))
             have n11_ := Aside0.mk ((by rw [hg]; exact Nat.ne_of_lt (blk_lt (g := gb502) (o := .cells #[.int .i8 0, .int .i8 0] 26 (0, 0)) (by (with_reducible repeat first | apply bN | apply bD | apply bA); exact BK502.out)) : gb502 ≠ gb501))
             have n12_ := Aside0.mk ((by rw [hg]; exact Nat.ne_of_gt (blk_lt (g := gb502) (o := .cells #[.int .i8 0, .int .i8 0] 26 (0, 0)) (by (with_reducible repeat first | apply bN | apply bD | apply bA); exact BK502.out)) : gb501 ≠ gb502))
             clear BK495
             clear BK496
             clear BK502
             clear HB
             have BK495 := n0_
             have BK496 := n1_
             have BK502 := n2_
             have HB := n3_
             have BK501 := n4_
             have GW501 := n5_
             have GE501 := n6_
             have NB495_501 := n7_
             have NB501_495 := n8_
             have NB496_501 := n9_
             have NB501_496 := n10_
             have NB502_501 := n11_
             have NB501_502 := n12_
             clear n0_ n1_ n2_ n3_ n4_ n5_ n6_ n7_ n8_ n9_ n10_ n11_ n12_
             clear hb hbox hg
             refine hK.out _ _ ⟨(blk_cell BK495.out 0).trans rfl, (blk_cell BK495.out 1).trans rfl, (blk_cell BK496.out 0).trans rfl, (blk_cell BK496.out 1).trans rfl⟩ (fun hHeld => ?_)
             clear hK K
             refine norm_ (a' := ?_) ?_ ?_
             rotate_left
             ·show Act.put _ (some 5) _ = _
              simp only [Act.put, List.setIfInBounds_toArray, List.set_cons_zero, List.set_cons_succ, i64_w, i32_w]
              rfl
             exact norm_ (by first | (simp only [putAll, Act.put, List.setIfInBounds_toArray, List.set_cons_zero, List.set_cons_succ]; done) | (simp only [putAll, Act.put, List.setIfInBounds_toArray, List.set_cons_zero, List.set_cons_succ]; rfl)) (hJ4_5 (gb501, gb502) _ ⟨hHeld, (by (with_reducible repeat first | apply bN | apply bD | apply bA); exact BK495.out), (by (with_reducible repeat first | apply bN | apply bD | apply bA); exact BK496.out), (by (with_reducible repeat first | apply bN | apply bD | apply bA); exact BK501.out), (by (with_reducible repeat first | apply bN | apply bD | apply bA); exact BK502.out), GW501.out, GE501.out, NB495_501.out, NB501_495.out, NB496_501.out, NB501_496.out, NB502_501.out, NB501_502.out, GW502.out, GE502.out, NB495_502.out, NB502_495.out, NB496_502.out, NB502_496.out, (by repeat (first | (with_reducible first | exact HB.out | apply below_alloc | apply pw_below_drewN | apply below_drew1 | refine below_set ?_ GE495.out | refine below_set ?_ GE496.out | refine below_set ?_ GE502.out | refine below_set ?_ GE501.out) | exact HB.out))⟩)
          ·skip
           rintro gb501 w11 ⟨hS_, h0_, h1_, h2_, h3_, h4_, h5_, h6_, h7_, h8_, h9_⟩
           have n0_ : Aside0 (w11.heap[gb495]? = some (.cells #[.int .i8 a0_0, .int .i8 a0_1] 35 (0, 0))) := ⟨h0_⟩
           have n1_ : Aside0 (w11.heap[gb496]? = some (.cells #[.int .i8 a1_0, .int .i8 a1_1] 35 (0, 0))) := ⟨h1_⟩
           have n2_ : Aside0 (w11.heap[gb501]? = some (.cells #[.int .i8 0, .int .i8 0] 26 (0, 0))) := ⟨h2_⟩
           have n3_ : Aside0 (w.heap.size ≤ gb501) := ⟨h3_⟩
           have n4_ : Aside0 (w.heap.size ≤ gb501) := ⟨h4_⟩
           have n5_ : Aside0 (gb495 ≠ gb501) := ⟨h5_⟩
           have n6_ : Aside0 (gb501 ≠ gb495) := ⟨h6_⟩
           have n7_ : Aside0 (gb496 ≠ gb501) := ⟨h7_⟩
           have n8_ : Aside0 (gb501 ≠ gb496) := ⟨h8_⟩
           have n9_ : Aside0 (Below w.heap.size w w11) := ⟨h9_⟩
           clear BK495
           clear BK496
           clear HB
           clear h0_ h1_ h2_ h3_ h4_ h5_ h6_ h7_ h8_ h9_
           have BK495 := n0_
           have BK496 := n1_
           have BK501 := n2_
           have GW501 := n3_
           have GE501 := n4_
           have NB495_501 := n5_
           have NB501_495 := n6_
           have NB496_501 := n7_
           have NB501_496 := n8_
           have HB := n9_
           clear n0_ n1_ n2_ n3_ n4_ n5_ n6_ n7_ n8_ n9_
           have hHeld : w11.cell? ⟨gb495, 0, none⟩ = some (.int .i8 a0_0) ∧ w11.cell? ⟨gb495, 1, none⟩ = some (.int .i8 a0_1) ∧ w11.cell? ⟨gb496, 0, none⟩ = some (.int .i8 a1_0) ∧ w11.cell? ⟨gb496, 1, none⟩ = some (.int .i8 a1_1) := hS_
           refine norm_ (a' := ?_) ?_ ?_
           rotate_left
           ·simp only [putAll, Act.put, List.setIfInBounds_toArray, List.set_cons_zero, List.set_cons_succ]
            rfl
           refine two_ (i := 1) (j := 5) (Ni := some 14) (Nj := some 6) #[true, true, true, false, true, false, false, false] #[true, false, true, false, true, true, false, false] rfl rfl rfl rfl (two_of HT_.out (by kernel_rfl)) (by decide) (by decide) (fun K hK => ?_) (fun K hK => ?_)
           ·skip
            refine goes_ Tryd.func22 (by kernel_rfl) rfl #[.agg #[.int .i8 a0_0, .int .i8 a0_1]] (by rfl) rfl rfl (by (try simp only [List.map_toArray, List.map_cons, List.map_nil]); first | done | rfl | (simp only [List.length_drop, List.length_take]; rfl)) ?_
            with_reducible refine (strength_Norm.calls a0_0 a0_1 t497 t498 _ A3.out).mono ?_
            rintro e w12 ⟨rfl, hb⟩
            refine ⟨_, rfl, ?_⟩
            have n0_ := Aside0.mk (blk_below (g := gb495) (o := .cells #[.int .i8 a0_0, .int .i8 a0_1] 35 (0, 0)) (by (with_reducible repeat first | apply bN | apply bD | apply bA); exact BK495.out) hb)
            have n1_ := Aside0.mk (blk_below (g := gb496) (o := .cells #[.int .i8 a1_0, .int .i8 a1_1] 35 (0, 0)) (by (with_reducible repeat first | apply bN | apply bD | apply bA); exact BK496.out) hb)
            have n2_ := Aside0.mk (blk_below (g := gb501) (o := .cells #[.int .i8 0, .int .i8 0] 26 (0, 0)) (by (with_reducible repeat first | apply bN | apply bD | apply bA); exact BK501.out) hb)
            have n3_ := Aside0.mk (below_step (by repeat (first | (with_reducible first | exact HB.out | apply below_alloc | apply pw_below_drewN | apply below_drew1 | refine below_set ?_ GE495.out | refine below_set ?_ GE496.out | refine below_set ?_ GE501.out) | exact HB.out)) hb)
            clear BK495
            clear BK496
            clear BK501
            clear HB
            have BK495 := n0_
            have BK496 := n1_
            have BK501 := n2_
            have HB := n3_
            clear n0_ n1_ n2_ n3_
            (try clear hb)
            (try clear hb2)
            (try clear hk)
            (try clear hi)
            refine hK.out _ _ ⟨(blk_cell BK495.out 0).trans rfl, (blk_cell BK495.out 1).trans rfl, (blk_cell BK496.out 0).trans rfl, (blk_cell BK496.out 1).trans rfl⟩ (fun hHeld => ?_)
            clear hK K
            refine norm_ (a' := ?_) ?_ ?_
            rotate_left
            ·show Act.put _ (some 14) _ = _
             simp only [Act.put, List.setIfInBounds_toArray, List.set_cons_zero, List.set_cons_succ, i64_w, i32_w]
             rfl
            exact norm_ (by first | (simp only [putAll, Act.put, List.setIfInBounds_toArray, List.set_cons_zero, List.set_cons_succ]; done) | (simp only [putAll, Act.put, List.setIfInBounds_toArray, List.set_cons_zero, List.set_cons_succ]; rfl)) (hJ1_4 (gb501) _ ⟨hHeld, (by (with_reducible repeat first | apply bN | apply bD | apply bA); exact BK495.out), (by (with_reducible repeat first | apply bN | apply bD | apply bA); exact BK496.out), (by (with_reducible repeat first | apply bN | apply bD | apply bA); exact BK501.out), GW501.out, GE501.out, NB495_501.out, NB501_495.out, NB496_501.out, NB501_496.out, (by repeat (first | (with_reducible first | exact HB.out | apply below_alloc | apply pw_below_drewN | apply below_drew1 | refine below_set ?_ GE495.out | refine below_set ?_ GE496.out | refine below_set ?_ GE501.out) | exact HB.out))⟩)
           ·skip
            refine box_step ?hg (N := 6) ?hd (cs := #[.int .i8 0, .int .i8 0]) (t := 26) ?hr ?_; (case hd => rfl); (case hg => rfl); (case hr => first | (go_simp; done) | (go_simp; rfl))
            intro gb502 hg w12 hbox hb
            have n0_ := Aside0.mk (blk_below (g := gb495) (o := .cells #[.int .i8 a0_0, .int .i8 a0_1] 35 (0, 0)) (by (with_reducible repeat first | apply bN | apply bD | apply bA); exact BK495.out) hb)
            have n1_ := Aside0.mk (blk_below (g := gb496) (o := .cells #[.int .i8 a1_0, .int .i8 a1_1] 35 (0, 0)) (by (with_reducible repeat first | apply bN | apply bD | apply bA); exact BK496.out) hb)
            have n2_ := Aside0.mk (blk_below (g := gb501) (o := .cells #[.int .i8 0, .int .i8 0] 26 (0, 0)) (by (with_reducible repeat first | apply bN | apply bD | apply bA); exact BK501.out) hb)
            have n3_ := Aside0.mk (below_step (by repeat (first | (with_reducible first | exact HB.out | apply below_alloc | apply pw_below_drewN | apply below_drew1 | refine below_set ?_ GE495.out | refine below_set ?_ GE496.out | refine below_set ?_ GE501.out) | exact HB.out)) hb)
            have n4_ := Aside0.mk (hbox)
            have n5_ := Aside0.mk ((by rw [hg]; exact (below_size (by repeat (first | (with_reducible first | exact HB.out | apply below_alloc | apply pw_below_drewN | apply below_drew1 | refine below_set ?_ GE495.out | refine below_set ?_ GE496.out | refine below_set ?_ GE501.out) | exact HB.out))) : w.heap.size ≤ gb502))
            have n6_ := Aside0.mk ((by rw [hg]; exact (below_size (by repeat (first | (with_reducible first | exact HB.out | apply below_alloc | apply pw_below_drewN | apply below_drew1 | refine below_set ?_ GE495.out | refine below_set ?_ GE496.out | refine below_set ?_ GE501.out) | exact HB.out))) : w.heap.size ≤ gb502))
            have n7_ := Aside0.mk ((by rw [hg]; exact Nat.ne_of_lt (blk_lt (g := gb495) (o := .cells #[.int .i8 a0_0, .int .i8 a0_1] 35 (0, 0)) (by (with_reducible repeat first | apply bN | apply bD | apply bA); exact BK495.out)) : gb495 ≠ gb502))
            have n8_ := Aside0.mk ((by rw [hg]; exact Nat.ne_of_gt (blk_lt (g := gb495) (o := .cells #[.int .i8 a0_0, .int .i8 a0_1] 35 (0, 0)) (by (with_reducible repeat first | apply bN | apply bD | apply bA); exact BK495.out)) : gb502 ≠ gb495))
            have n9_ := Aside0.mk ((by rw [hg]; exact Nat.ne_of_lt (blk_lt (g := gb496) (o := .cells #[.int .i8 a1_0, .int .i8 a1_1] 35 (0, 0)) (by (with_reducible repeat first | apply bN | apply bD | apply bA); exact BK496.out)) : gb496 ≠ gb502))
            have n10_ := Aside0.mk ((by rw [hg]; exact Nat.ne_of_gt (blk_lt (g := gb496) (o := .cells #[.int .i8 a1_0, .int .i8 a1_1] 35 (0, 0)) (by (with_reducible repeat first | apply bN | apply bD | apply bA); exact BK496.out)) : gb502 ≠ gb496))
            have n11_ := Aside0.mk ((by rw [hg]; exact Nat.ne_of_lt (blk_lt (g := gb501) (o := .cells #[.int .i8 0, .int .i8 0] 26 (0, 0)) (by (with_reducible repeat first | apply bN | apply bD | apply bA); exact BK501.out)) : gb501 ≠ gb502))
            have n12_ := Aside0.mk ((by rw [hg]; exact Nat.ne_of_gt (blk_lt (g := gb501) (o := .cells #[.int .i8 0, .int .i8 0] 26 (0, 0)) (by (with_reducible repeat first | apply bN | apply bD | apply bA); exact BK501.out)) : gb502 ≠ gb501))
            clear BK495
            clear BK496
            clear BK501
            clear HB
            have BK495 := n0_
            have BK496 := n1_
            have BK501 := n2_
            have HB := n3_
            have BK502 := n4_
            have GW502 := n5_
            have GE502 := n6_
            have NB495_502 := n7_
            have NB502_495 := n8_
            have NB496_502 := n9_
            have NB502_496 := n10_
            have NB501_502 := n11_
            have NB502_501 := n12_
            clear n0_ n1_ n2_ n3_ n4_ n5_ n6_ n7_ n8_ n9_ n10_ n11_ n12_
            clear hb hbox hg
            refine hK.out _ _ ⟨(blk_cell BK495.out 0).trans rfl, (blk_cell BK495.out 1).trans rfl, (blk_cell BK496.out 0).trans rfl, (blk_cell BK496.out 1).trans rfl⟩ (fun hHeld => ?_)
            clear hK K
            refine norm_ (a' := ?_) ?_ ?_
            rotate_left
            ·show Act.put _ (some 6) _ = _
             simp only [Act.put, List.setIfInBounds_toArray, List.set_cons_zero, List.set_cons_succ, i64_w, i32_w]
             rfl
            exact norm_ (by first | (simp only [putAll, Act.put, List.setIfInBounds_toArray, List.set_cons_zero, List.set_cons_succ]; done) | (simp only [putAll, Act.put, List.setIfInBounds_toArray, List.set_cons_zero, List.set_cons_succ]; rfl)) (hJ4_5 (gb501, gb502) _ ⟨hHeld, (by (with_reducible repeat first | apply bN | apply bD | apply bA); exact BK495.out), (by (with_reducible repeat first | apply bN | apply bD | apply bA); exact BK496.out), (by (with_reducible repeat first | apply bN | apply bD | apply bA); exact BK501.out), (by (with_reducible repeat first | apply bN | apply bD | apply bA); exact BK502.out), GW501.out, GE501.out, NB495_501.out, NB501_495.out, NB496_501.out, NB501_496.out, NB502_501.out, NB501_502.out, GW502.out, GE502.out, NB495_502.out, NB502_495.out, NB496_502.out, NB502_496.out, (by repeat (first | (with_reducible first | exact HB.out | apply below_alloc | apply pw_below_drewN | apply below_drew1 | refine below_set ?_ GE495.out | refine below_set ?_ GE496.out | refine below_set ?_ GE501.out | refine below_set ?_ GE502.out) | exact HB.out))⟩)
         ·skip
          rintro _ w11 ⟨hS_, h0_, h1_, h2_⟩
          have n0_ : Aside0 (w11.heap[gb495]? = some (.cells #[.int .i8 a0_0, .int .i8 a0_1] 35 (0, 0))) := ⟨h0_⟩
          have n1_ : Aside0 (w11.heap[gb496]? = some (.cells #[.int .i8 a1_0, .int .i8 a1_1] 35 (0, 0))) := ⟨h1_⟩
          have n2_ : Aside0 (Below w.heap.size w w11) := ⟨h2_⟩
          clear BK495
          clear BK496
          clear HB
          clear h0_ h1_ h2_
          have BK495 := n0_
          have BK496 := n1_
          have HB := n2_
          clear n0_ n1_ n2_
          have hHeld : w11.cell? ⟨gb495, 0, none⟩ = some (.int .i8 a0_0) ∧ w11.cell? ⟨gb495, 1, none⟩ = some (.int .i8 a0_1) ∧ w11.cell? ⟨gb496, 0, none⟩ = some (.int .i8 a1_0) ∧ w11.cell? ⟨gb496, 1, none⟩ = some (.int .i8 a1_1) := hS_
          refine norm_ (a' := ?_) ?_ ?_
          rotate_left
          ·simp only [putAll, Act.put, List.setIfInBounds_toArray, List.set_cons_zero, List.set_cons_succ]
           rfl
          refine three_ (i := 3) (j := 4) (k := 5) (Ni := some 16) (Nj := some 5) (Nk := some 6) #[true, true, true, true, false, false, false, false] #[true, true, true, false, true, false, false, false] #[true, true, true, false, false, true, false, false] rfl rfl rfl rfl rfl rfl (three_of HT_.out (by kernel_rfl)) (by decide) (by decide) (by decide) (fun K hK => ?_) (fun K hK => ?_) (fun K hK => ?_)
          ·skip
           refine goes_ Tryd.func22 (by kernel_rfl) rfl #[.agg #[.int .i8 a1_0, .int .i8 a1_1]] (by rfl) rfl rfl (by (try simp only [List.map_toArray, List.map_cons, List.map_nil]); first | done | rfl | (simp only [List.length_drop, List.length_take]; rfl)) ?_
           with_reducible refine (strength_Norm.calls a1_0 a1_1 t499 t500 _ A4.out).mono ?_
           rintro e w12 ⟨rfl, hb⟩
           refine ⟨_, rfl, ?_⟩
           have n0_ := Aside0.mk (blk_below (g := gb495) (o := .cells #[.int .i8 a0_0, .int .i8 a0_1] 35 (0, 0)) (by (with_reducible repeat first | apply bN | apply bD | apply bA); exact BK495.out) hb)
           have n1_ := Aside0.mk (blk_below (g := gb496) (o := .cells #[.int .i8 a1_0, .int .i8 a1_1] 35 (0, 0)) (by (with_reducible repeat first | apply bN | apply bD | apply bA); exact BK496.out) hb)
           have n2_ := Aside0.mk (below_step (by repeat (first | (with_reducible first | exact HB.out | apply below_alloc | apply pw_below_drewN | apply below_drew1 | refine below_set ?_ GE495.out | refine below_set ?_ GE496.out) | exact HB.out)) hb)
           clear BK495
           clear BK496
           clear HB
           have BK495 := n0_
           have BK496 := n1_
           have HB := n2_
           clear n0_ n1_ n2_
           (try clear hb)
           (try clear hb2)
           (try clear hk)
           (try clear hi)
           refine hK.out _ _ ⟨(blk_cell BK495.out 0).trans rfl, (blk_cell BK495.out 1).trans rfl, (blk_cell BK496.out 0).trans rfl, (blk_cell BK496.out 1).trans rfl⟩ (fun hHeld => ?_)
           clear hK K
           refine norm_ (a' := ?_) ?_ ?_
           rotate_left
           ·show Act.put _ (some 16) _ = _
            simp only [Act.put, List.setIfInBounds_toArray, List.set_cons_zero, List.set_cons_succ, i64_w, i32_w]
            rfl
           exact norm_ (by first | (simp only [putAll, Act.put, List.setIfInBounds_toArray, List.set_cons_zero, List.set_cons_succ]; done) | (simp only [putAll, Act.put, List.setIfInBounds_toArray, List.set_cons_zero, List.set_cons_succ]; rfl)) (hJ1_3 () _ ⟨hHeld, (by (with_reducible repeat first | apply bN | apply bD | apply bA); exact BK495.out), (by (with_reducible repeat first | apply bN | apply bD | apply bA); exact BK496.out), (by repeat (first | (with_reducible first | exact HB.out | apply below_alloc | apply pw_below_drewN | apply below_drew1 | refine below_set ?_ GE495.out | refine below_set ?_ GE496.out) | exact HB.out))⟩)
          ·skip
           refine box_step ?hg (N := 5) ?hd (cs := #[.int .i8 0, .int .i8 0]) (t := 26) ?hr ?_; (case hd => rfl); (case hg => rfl); (case hr => first | (go_simp; done) | (go_simp; rfl))
           intro gb501 hg w12 hbox hb
           have n0_ := Aside0.mk (blk_below (g := gb495) (o := .cells #[.int .i8 a0_0, .int .i8 a0_1] 35 (0, 0)) (by (with_reducible repeat first | apply bN | apply bD | apply bA); exact BK495.out) hb)
           have n1_ := Aside0.mk (blk_below (g := gb496) (o := .cells #[.int .i8 a1_0, .int .i8 a1_1] 35 (0, 0)) (by (with_reducible repeat first | apply bN | apply bD | apply bA); exact BK496.out) hb)
           have n2_ := Aside0.mk (below_step (by repeat (first | (with_reducible first | exact HB.out | apply below_alloc | apply pw_below_drewN | apply below_drew1 | refine below_set ?_ GE495.out | refine below_set ?_ GE496.out) | exact HB.out)) hb)
           have n3_ := Aside0.mk (hbox)
           have n4_ := Aside0.mk ((by rw [hg]; exact (below_size (by repeat (first | (with_reducible first | exact HB.out | apply below_alloc | apply pw_below_drewN | apply below_drew1 | refine below_set ?_ GE495.out | refine below_set ?_ GE496.out) | exact HB.out))) : w.heap.size ≤ gb501))
           have n5_ := Aside0.mk ((by rw [hg]; exact (below_size (by repeat (first | (with_reducible first | exact HB.out | apply below_alloc | apply pw_below_drewN | apply below_drew1 | refine below_set ?_ GE495.out | refine below_set ?_ GE496.out) | exact HB.out))) : w.heap.size ≤ gb501))
           have n6_ := Aside0.mk ((by rw [hg]; exact Nat.ne_of_lt (blk_lt (g := gb495) (o := .cells #[.int .i8 a0_0, .int .i8 a0_1] 35 (0, 0)) (by (with_reducible repeat first | apply bN | apply bD | apply bA); exact BK495.out)) : gb495 ≠ gb501))
           have n7_ := Aside0.mk ((by rw [hg]; exact Nat.ne_of_gt (blk_lt (g := gb495) (o := .cells #[.int .i8 a0_0, .int .i8 a0_1] 35 (0, 0)) (by (with_reducible repeat first | apply bN | apply bD | apply bA); exact BK495.out)) : gb501 ≠ gb495))
           have n8_ := Aside0.mk ((by rw [hg]; exact Nat.ne_of_lt (blk_lt (g := gb496) (o := .cells #[.int .i8 a1_0, .int .i8 a1_1] 35 (0, 0)) (by (with_reducible repeat first | apply bN | apply bD | apply bA); exact BK496.out)) : gb496 ≠ gb501))
           have n9_ := Aside0.mk ((by rw [hg]; exact Nat.ne_of_gt (blk_lt (g := gb496) (o := .cells #[.int .i8 a1_0, .int .i8 a1_1] 35 (0, 0)) (by (with_reducible repeat first | apply bN | apply bD | apply bA); exact BK496.out)) : gb501 ≠ gb496))
           clear BK495
           clear BK496
           clear HB
           have BK495 := n0_
           have BK496 := n1_
           have HB := n2_
           have BK501 := n3_
           have GW501 := n4_
           have GE501 := n5_
           have NB495_501 := n6_
           have NB501_495 := n7_
           have NB496_501 := n8_
           have NB501_496 := n9_
           clear n0_ n1_ n2_ n3_ n4_ n5_ n6_ n7_ n8_ n9_
           clear hb hbox hg
           refine hK.out _ _ ⟨(blk_cell BK495.out 0).trans rfl, (blk_cell BK495.out 1).trans rfl, (blk_cell BK496.out 0).trans rfl, (blk_cell BK496.out 1).trans rfl⟩ (fun hHeld => ?_)
           clear hK K
           refine norm_ (a' := ?_) ?_ ?_
           rotate_left
           ·show Act.put _ (some 5) _ = _
            simp only [Act.put, List.setIfInBounds_toArray, List.set_cons_zero, List.set_cons_succ, i64_w, i32_w]
            rfl
           exact norm_ (by first | (simp only [putAll, Act.put, List.setIfInBounds_toArray, List.set_cons_zero, List.set_cons_succ]; done) | (simp only [putAll, Act.put, List.setIfInBounds_toArray, List.set_cons_zero, List.set_cons_succ]; rfl)) (hJ1_4 (gb501) _ ⟨hHeld, (by (with_reducible repeat first | apply bN | apply bD | apply bA); exact BK495.out), (by (with_reducible repeat first | apply bN | apply bD | apply bA); exact BK496.out), (by (with_reducible repeat first | apply bN | apply bD | apply bA); exact BK501.out), GW501.out, GE501.out, NB495_501.out, NB501_495.out, NB496_501.out, NB501_496.out, (by repeat (first | (with_reducible first | exact HB.out | apply below_alloc | apply pw_below_drewN | apply below_drew1 | refine below_set ?_ GE495.out | refine below_set ?_ GE496.out | refine below_set ?_ GE501.out) | exact HB.out))⟩)
          ·skip
           refine box_step ?hg (N := 6) ?hd (cs := #[.int .i8 0, .int .i8 0]) (t := 26) ?hr ?_; (case hd => rfl); (case hg => rfl); (case hr => first | (go_simp; done) | (go_simp; rfl))
           intro gb502 hg w12 hbox hb
           have n0_ := Aside0.mk (blk_below (g := gb495) (o := .cells #[.int .i8 a0_0, .int .i8 a0_1] 35 (0, 0)) (by (with_reducible repeat first | apply bN | apply bD | apply bA); exact BK495.out) hb)
           have n1_ := Aside0.mk (blk_below (g := gb496) (o := .cells #[.int .i8 a1_0, .int .i8 a1_1] 35 (0, 0)) (by (with_reducible repeat first | apply bN | apply bD | apply bA); exact BK496.out) hb)
           have n2_ := Aside0.mk (below_step (by repeat (first | (with_reducible first | exact HB.out | apply below_alloc | apply pw_below_drewN | apply below_drew1 | refine below_set ?_ GE495.out | refine below_set ?_ GE496.out) | exact HB.out)) hb)
           have n3_ := Aside0.mk (hbox)
           have n4_ := Aside0.mk ((by rw [hg]; exact (below_size (by repeat (first | (with_reducible first | exact HB.out | apply below_alloc | apply pw_below_drewN | apply below_drew1 | refine below_set ?_ GE495.out | refine below_set ?_ GE496.out) | exact HB.out))) : w.heap.size ≤ gb502))
           have n5_ := Aside0.mk ((by rw [hg]; exact (below_size (by repeat (first | (with_reducible first | exact HB.out | apply below_alloc | apply pw_below_drewN | apply below_drew1 | refine below_set ?_ GE495.out | refine below_set ?_ GE496.out) | exact HB.out))) : w.heap.size ≤ gb502))
           have n6_ := Aside0.mk ((by rw [hg]; exact Nat.ne_of_lt (blk_lt (g := gb495) (o := .cells #[.int .i8 a0_0, .int .i8 a0_1] 35 (0, 0)) (by (with_reducible repeat first | apply bN | apply bD | apply bA); exact BK495.out)) : gb495 ≠ gb502))
           have n7_ := Aside0.mk ((by rw [hg]; exact Nat.ne_of_gt (blk_lt (g := gb495) (o := .cells #[.int .i8 a0_0, .int .i8 a0_1] 35 (0, 0)) (by (with_reducible repeat first | apply bN | apply bD | apply bA); exact BK495.out)) : gb502 ≠ gb495))
           have n8_ := Aside0.mk ((by rw [hg]; exact Nat.ne_of_lt (blk_lt (g := gb496) (o := .cells #[.int .i8 a1_0, .int .i8 a1_1] 35 (0, 0)) (by (with_reducible repeat first | apply bN | apply bD | apply bA); exact BK496.out)) : gb496 ≠ gb502))
           have n9_ := Aside0.mk ((by rw [hg]; exact Nat.ne_of_gt (blk_lt (g := gb496) (o := .cells #[.int .i8 a1_0, .int .i8 a1_1] 35 (0, 0)) (by (with_reducible repeat first | apply bN | apply bD | apply bA); exact BK496.out)) : gb502 ≠ gb496))
           clear BK495
           clear BK496
           clear HB
           have BK495 := n0_
           have BK496 := n1_
           have HB := n2_
           have BK502 := n3_
           have GW502 := n4_
           have GE502 := n5_
           have NB495_502 := n6_
           have NB502_495 := n7_
           have NB496_502 := n8_
           have NB502_496 := n9_
           clear n0_ n1_ n2_ n3_ n4_ n5_ n6_ n7_ n8_ n9_
           clear hb hbox hg
           refine hK.out _ _ ⟨(blk_cell BK495.out 0).trans rfl, (blk_cell BK495.out 1).trans rfl, (blk_cell BK496.out 0).trans rfl, (blk_cell BK496.out 1).trans rfl⟩ (fun hHeld => ?_)
           clear hK K
           refine norm_ (a' := ?_) ?_ ?_
           rotate_left
           ·show Act.put _ (some 6) _ = _
            simp only [Act.put, List.setIfInBounds_toArray, List.set_cons_zero, List.set_cons_succ, i64_w, i32_w]
            rfl
           exact norm_ (by first | (simp only [putAll, Act.put, List.setIfInBounds_toArray, List.set_cons_zero, List.set_cons_succ]; done) | (simp only [putAll, Act.put, List.setIfInBounds_toArray, List.set_cons_zero, List.set_cons_succ]; rfl)) (hJ1_5 (gb502) _ ⟨hHeld, (by (with_reducible repeat first | apply bN | apply bD | apply bA); exact BK495.out), (by (with_reducible repeat first | apply bN | apply bD | apply bA); exact BK496.out), (by (with_reducible repeat first | apply bN | apply bD | apply bA); exact BK502.out), GW502.out, GE502.out, NB495_502.out, NB502_495.out, NB496_502.out, NB502_496.out, (by repeat (first | (with_reducible first | exact HB.out | apply below_alloc | apply pw_below_drewN | apply below_drew1 | refine below_set ?_ GE495.out | refine below_set ?_ GE496.out | refine below_set ?_ GE502.out) | exact HB.out))⟩)
        ·skip
         rintro ⟨gb501, gb502⟩ w12 ⟨hS_, h0_, h1_, h2_, h3_, h4_, h5_, h6_, h7_, h8_, h9_, h10_, h11_, h12_, h13_, h14_, h15_, h16_, h17_, h18_⟩
         have n0_ : Aside0 (w12.heap[gb495]? = some (.cells #[.int .i8 a0_0, .int .i8 a0_1] 35 (0, 0))) := ⟨h0_⟩
         have n1_ : Aside0 (w12.heap[gb496]? = some (.cells #[.int .i8 a1_0, .int .i8 a1_1] 35 (0, 0))) := ⟨h1_⟩
         have n2_ : Aside0 (w12.heap[gb501]? = some (.cells #[.int .i8 0, .int .i8 0] 26 (0, 0))) := ⟨h2_⟩
         have n3_ : Aside0 (w12.heap[gb502]? = some (.cells #[.int .i8 0, .int .i8 0] 26 (0, 0))) := ⟨h3_⟩
         have n4_ : Aside0 (w.heap.size ≤ gb501) := ⟨h4_⟩
         have n5_ : Aside0 (w.heap.size ≤ gb501) := ⟨h5_⟩
         have n6_ : Aside0 (gb495 ≠ gb501) := ⟨h6_⟩
         have n7_ : Aside0 (gb501 ≠ gb495) := ⟨h7_⟩
         have n8_ : Aside0 (gb496 ≠ gb501) := ⟨h8_⟩
         have n9_ : Aside0 (gb501 ≠ gb496) := ⟨h9_⟩
         have n10_ : Aside0 (gb502 ≠ gb501) := ⟨h10_⟩
         have n11_ : Aside0 (gb501 ≠ gb502) := ⟨h11_⟩
         have n12_ : Aside0 (w.heap.size ≤ gb502) := ⟨h12_⟩
         have n13_ : Aside0 (w.heap.size ≤ gb502) := ⟨h13_⟩
         have n14_ : Aside0 (gb495 ≠ gb502) := ⟨h14_⟩
         have n15_ : Aside0 (gb502 ≠ gb495) := ⟨h15_⟩
         have n16_ : Aside0 (gb496 ≠ gb502) := ⟨h16_⟩
         have n17_ : Aside0 (gb502 ≠ gb496) := ⟨h17_⟩
         have n18_ : Aside0 (Below w.heap.size w w12) := ⟨h18_⟩
         clear BK495
         clear BK496
         clear HB
         clear h0_ h1_ h2_ h3_ h4_ h5_ h6_ h7_ h8_ h9_ h10_ h11_ h12_ h13_ h14_ h15_ h16_ h17_ h18_
         have BK495 := n0_
         have BK496 := n1_
         have BK501 := n2_
         have BK502 := n3_
         have GW501 := n4_
         have GE501 := n5_
         have NB495_501 := n6_
         have NB501_495 := n7_
         have NB496_501 := n8_
         have NB501_496 := n9_
         have NB502_501 := n10_
         have NB501_502 := n11_
         have GW502 := n12_
         have GE502 := n13_
         have NB495_502 := n14_
         have NB502_495 := n15_
         have NB496_502 := n16_
         have NB502_496 := n17_
         have HB := n18_
         clear n0_ n1_ n2_ n3_ n4_ n5_ n6_ n7_ n8_ n9_ n10_ n11_ n12_ n13_ n14_ n15_ n16_ n17_ n18_
         have hHeld : w12.cell? ⟨gb495, 0, none⟩ = some (.int .i8 a0_0) ∧ w12.cell? ⟨gb495, 1, none⟩ = some (.int .i8 a0_1) ∧ w12.cell? ⟨gb496, 0, none⟩ = some (.int .i8 a1_0) ∧ w12.cell? ⟨gb496, 1, none⟩ = some (.int .i8 a1_1) := hS_
         refine norm_ (a' := ?_) ?_ ?_
         rotate_left
         ·simp only [putAll, Act.put, List.setIfInBounds_toArray, List.set_cons_zero, List.set_cons_succ]
          rfl
         refine one_ (i := 1) (N := some 14) #[true, true, true, false, true, true, false, false] rfl rfl (one_of HT_.out (by kernel_rfl)) (by decide) (fun K hK => ?_)
         refine goes_ Tryd.func22 (by kernel_rfl) rfl #[.agg #[.int .i8 a0_0, .int .i8 a0_1]] (by rfl) rfl rfl (by (try simp only [List.map_toArray, List.map_cons, List.map_nil]); first | done | rfl | (simp only [List.length_drop, List.length_take]; rfl)) ?_
         with_reducible refine (strength_Norm.calls a0_0 a0_1 t497 t498 _ A3.out).mono ?_
         rintro e w13 ⟨rfl, hb⟩
         refine ⟨_, rfl, ?_⟩
         have n0_ := Aside0.mk (blk_below (g := gb495) (o := .cells #[.int .i8 a0_0, .int .i8 a0_1] 35 (0, 0)) (by (with_reducible repeat first | apply bN | apply bD | apply bA); exact BK495.out) hb)
         have n1_ := Aside0.mk (blk_below (g := gb496) (o := .cells #[.int .i8 a1_0, .int .i8 a1_1] 35 (0, 0)) (by (with_reducible repeat first | apply bN | apply bD | apply bA); exact BK496.out) hb)
         have n2_ := Aside0.mk (blk_below (g := gb501) (o := .cells #[.int .i8 0, .int .i8 0] 26 (0, 0)) (by (with_reducible repeat first | apply bN | apply bD | apply bA); exact BK501.out) hb)
         have n3_ := Aside0.mk (blk_below (g := gb502) (o := .cells #[.int .i8 0, .int .i8 0] 26 (0, 0)) (by (with_reducible repeat first | apply bN | apply bD | apply bA); exact BK502.out) hb)
         have n4_ := Aside0.mk (below_step (by repeat (first | (with_reducible first | exact HB.out | apply below_alloc | apply pw_below_drewN | apply below_drew1 | refine below_set ?_ GE495.out | refine below_set ?_ GE496.out | refine below_set ?_ GE501.out | refine below_set ?_ GE502.out) | exact HB.out)) hb)
         clear BK495
         clear BK496
         clear BK501
         clear BK502
         clear HB
         have BK495 := n0_
         have BK496 := n1_
         have BK501 := n2_
         have BK502 := n3_
         have HB := n4_
         clear n0_ n1_ n2_ n3_ n4_
         (try clear hb)
         (try clear hb2)
         (try clear hk)
         (try clear hi)
         refine hK.out _ _ ⟨(blk_cell BK495.out 0).trans rfl, (blk_cell BK495.out 1).trans rfl, (blk_cell BK496.out 0).trans rfl, (blk_cell BK496.out 1).trans rfl⟩ (fun hHeld => ?_)
         clear hK K
         refine norm_ (a' := ?_) ?_ ?_
         rotate_left
         ·show Act.put _ (some 14) _ = _
          simp only [Act.put, List.setIfInBounds_toArray, List.set_cons_zero, List.set_cons_succ, i64_w, i32_w]
          rfl
         exact norm_ (by first | (simp only [putAll, Act.put, List.setIfInBounds_toArray, List.set_cons_zero, List.set_cons_succ]; done) | (simp only [putAll, Act.put, List.setIfInBounds_toArray, List.set_cons_zero, List.set_cons_succ]; rfl)) (hJ1_4_5 (gb501, gb502) _ ⟨hHeld, (by (with_reducible repeat first | apply bN | apply bD | apply bA); exact BK495.out), (by (with_reducible repeat first | apply bN | apply bD | apply bA); exact BK496.out), (by (with_reducible repeat first | apply bN | apply bD | apply bA); exact BK501.out), (by (with_reducible repeat first | apply bN | apply bD | apply bA); exact BK502.out), GW501.out, GE501.out, NB495_501.out, NB501_495.out, NB496_501.out, NB501_496.out, NB502_501.out, NB501_502.out, GW502.out, GE502.out, NB495_502.out, NB502_495.out, NB496_502.out, NB502_496.out, (by repeat (first | (with_reducible first | exact HB.out | apply below_alloc | apply pw_below_drewN | apply below_drew1 | refine below_set ?_ GE495.out | refine below_set ?_ GE496.out | refine below_set ?_ GE501.out | refine below_set ?_ GE502.out) | exact HB.out))⟩)
       ·skip
        rintro gb502 w12 ⟨hS_, h0_, h1_, h2_, h3_, h4_, h5_, h6_, h7_, h8_, h9_⟩
        have n0_ : Aside0 (w12.heap[gb495]? = some (.cells #[.int .i8 a0_0, .int .i8 a0_1] 35 (0, 0))) := ⟨h0_⟩
        have n1_ : Aside0 (w12.heap[gb496]? = some (.cells #[.int .i8 a1_0, .int .i8 a1_1] 35 (0, 0))) := ⟨h1_⟩
        have n2_ : Aside0 (w12.heap[gb502]? = some (.cells #[.int .i8 0, .int .i8 0] 26 (0, 0))) := ⟨h2_⟩
        have n3_ : Aside0 (w.heap.size ≤ gb502) := ⟨h3_⟩
        have n4_ : Aside0 (w.heap.size ≤ gb502) := ⟨h4_⟩
        have n5_ : Aside0 (gb495 ≠ gb502) := ⟨h5_⟩
        have n6_ : Aside0 (gb502 ≠ gb495) := ⟨h6_⟩
        have n7_ : Aside0 (gb496 ≠ gb502) := ⟨h7_⟩
        have n8_ : Aside0 (gb502 ≠ gb496) := ⟨h8_⟩
        have n9_ : Aside0 (Below w.heap.size w w12) := ⟨h9_⟩
        clear BK495
        clear BK496
        clear HB
        clear h0_ h1_ h2_ h3_ h4_ h5_ h6_ h7_ h8_ h9_
        have BK495 := n0_
        have BK496 := n1_
        have BK502 := n2_
        have GW502 := n3_
        have GE502 := n4_
        have NB495_502 := n5_
        have NB502_495 := n6_
        have NB496_502 := n7_
        have NB502_496 := n8_
        have HB := n9_
        clear n0_ n1_ n2_ n3_ n4_ n5_ n6_ n7_ n8_ n9_
        have hHeld : w12.cell? ⟨gb495, 0, none⟩ = some (.int .i8 a0_0) ∧ w12.cell? ⟨gb495, 1, none⟩ = some (.int .i8 a0_1) ∧ w12.cell? ⟨gb496, 0, none⟩ = some (.int .i8 a1_0) ∧ w12.cell? ⟨gb496, 1, none⟩ = some (.int .i8 a1_1) := hS_
        refine norm_ (a' := ?_) ?_ ?_
        rotate_left
        ·simp only [putAll, Act.put, List.setIfInBounds_toArray, List.set_cons_zero, List.set_cons_succ]
         rfl
        refine two_ (i := 3) (j := 4) (Ni := some 16) (Nj := some 5) #[true, true, true, true, false, true, false, false] #[true, true, true, false, true, true, false, false] rfl rfl rfl rfl (two_of HT_.out (by kernel_rfl)) (by decide) (by decide) (fun K hK => ?_) (fun K hK => ?_)
        ·skip
         refine goes_ Tryd.func22 (by kernel_rfl) rfl #[.agg #[.int .i8 a1_0, .int .i8 a1_1]] (by rfl) rfl rfl (by (try simp only [List.map_toArray, List.map_cons, List.map_nil]); first | done | rfl | (simp only [List.length_drop, List.length_take]; rfl)) ?_
         with_reducible refine (strength_Norm.calls a1_0 a1_1 t499 t500 _ A4.out).mono ?_
         rintro e w13 ⟨rfl, hb⟩
         refine ⟨_, rfl, ?_⟩
         have n0_ := Aside0.mk (blk_below (g := gb495) (o := .cells #[.int .i8 a0_0, .int .i8 a0_1] 35 (0, 0)) (by (with_reducible repeat first | apply bN | apply bD | apply bA); exact BK495.out) hb)
         have n1_ := Aside0.mk (blk_below (g := gb496) (o := .cells #[.int .i8 a1_0, .int .i8 a1_1] 35 (0, 0)) (by (with_reducible repeat first | apply bN | apply bD | apply bA); exact BK496.out) hb)
         have n2_ := Aside0.mk (blk_below (g := gb502) (o := .cells #[.int .i8 0, .int .i8 0] 26 (0, 0)) (by (with_reducible repeat first | apply bN | apply bD | apply bA); exact BK502.out) hb)
         have n3_ := Aside0.mk (below_step (by repeat (first | (with_reducible first | exact HB.out | apply below_alloc | apply pw_below_drewN | apply below_drew1 | refine below_set ?_ GE495.out | refine below_set ?_ GE496.out | refine below_set ?_ GE502.out) | exact HB.out)) hb)
         clear BK495
         clear BK496
         clear BK502
         clear HB
         have BK495 := n0_
         have BK496 := n1_
         have BK502 := n2_
         have HB := n3_
         clear n0_ n1_ n2_ n3_
         (try clear hb)
         (try clear hb2)
         (try clear hk)
         (try clear hi)
         refine hK.out _ _ ⟨(blk_cell BK495.out 0).trans rfl, (blk_cell BK495.out 1).trans rfl, (blk_cell BK496.out 0).trans rfl, (blk_cell BK496.out 1).trans rfl⟩ (fun hHeld => ?_)
         clear hK K
         refine norm_ (a' := ?_) ?_ ?_
         rotate_left
         ·show Act.put _ (some 16) _ = _
          simp only [Act.put, List.setIfInBounds_toArray, List.set_cons_zero, List.set_cons_succ, i64_w, i32_w]
          rfl
         exact norm_ (by first | (simp only [putAll, Act.put, List.setIfInBounds_toArray, List.set_cons_zero, List.set_cons_succ]; done) | (simp only [putAll, Act.put, List.setIfInBounds_toArray, List.set_cons_zero, List.set_cons_succ]; rfl)) (hJ1_3_5 (gb502) _ ⟨hHeld, (by (with_reducible repeat first | apply bN | apply bD | apply bA); exact BK495.out), (by (with_reducible repeat first | apply bN | apply bD | apply bA); exact BK496.out), (by (with_reducible repeat first | apply bN | apply bD | apply bA); exact BK502.out), GW502.out, GE502.out, NB495_502.out, NB502_495.out, NB496_502.out, NB502_496.out, (by repeat (first | (with_reducible first | exact HB.out | apply below_alloc | apply pw_below_drewN | apply below_drew1 | refine below_set ?_ GE495.out | refine below_set ?_ GE496.out | refine below_set ?_ GE502.out) | exact HB.out))⟩)
        ·skip
         refine box_step ?hg (N := 5) ?hd (cs := #[.int .i8 0, .int .i8 0]) (t := 26) ?hr ?_; (case hd => rfl); (case hg => rfl); (case hr => first | (go_simp; done) | (go_simp; rfl))
         intro gb501 hg w13 hbox hb
         have n0_ := Aside0.mk (blk_below (g := gb495) (o := .cells #[.int .i8 a0_0, .int .i8 a0_1] 35 (0, 0)) (by (with_reducible repeat first | apply bN | apply bD | apply bA); exact BK495.out) hb)
         have n1_ := Aside0.mk (blk_below (g := gb496) (o := .cells #[.int .i8 a1_0, .int .i8 a1_1] 35 (0, 0)) (by (with_reducible repeat first | apply bN | apply bD | apply bA); exact BK496.out) hb)
         have n2_ := Aside0.mk (blk_below (g := gb502) (o := .cells #[.int .i8 0, .int .i8 0] 26 (0, 0)) (by (with_reducible repeat first | apply bN | apply bD | apply bA); exact BK502.out) hb)
         have n3_ := Aside0.mk (below_step (by repeat (first | (with_reducible first | exact HB.out | apply below_alloc | apply pw_below_drewN | apply below_drew1 | refine below_set ?_ GE495.out | refine below_set ?_ GE496.out | refine below_set ?_ GE502.out) | exact HB.out)) hb)
         have n4_ := Aside0.mk (hbox)
         have n5_ := Aside0.mk ((by rw [hg]; exact (below_size (by repeat (first | (with_reducible first | exact HB.out | apply below_alloc | apply pw_below_drewN | apply below_drew1 | refine below_set ?_ GE495.out | refine below_set ?_ GE496.out | refine below_set ?_ GE502.out) | exact HB.out))) : w.heap.size ≤ gb501))
         have n6_ := Aside0.mk ((by rw [hg]; exact (below_size (by repeat (first | (with_reducible first | exact HB.out | apply below_alloc | apply pw_below_drewN | apply below_drew1 | refine below_set ?_ GE495.out | refine below_set ?_ GE496.out | refine below_set ?_ GE502.out) | exact HB.out))) : w.heap.size ≤ gb501))
         have n7_ := Aside0.mk ((by rw [hg]; exact Nat.ne_of_lt (blk_lt (g := gb495) (o := .cells #[.int .i8 a0_0, .int .i8 a0_1] 35 (0, 0)) (by (with_reducible repeat first | apply bN | apply bD | apply bA); exact BK495.out)) : gb495 ≠ gb501))
         have n8_ := Aside0.mk ((by rw [hg]; exact Nat.ne_of_gt (blk_lt (g := gb495) (o := .cells #[.int .i8 a0_0, .int .i8 a0_1] 35 (0, 0)) (by (with_reducible repeat first | apply bN | apply bD | apply bA); exact BK495.out)) : gb501 ≠ gb495))
         have n9_ := Aside0.mk ((by rw [hg]; exact Nat.ne_of_lt (blk_lt (g := gb496) (o := .cells #[.int .i8 a1_0, .int .i8 a1_1] 35 (0, 0)) (by (with_reducible repeat first | apply bN | apply bD | apply bA); exact BK496.out)) : gb496 ≠ gb501))
         have n10_ := Aside0.mk ((by rw [hg]; exact Nat.ne_of_gt (blk_lt (g := gb496) (o := .cells #[.int .i8 a1_0, .int .i8 a1_1] 35 (0, 0)) (by (with_reducible repeat first | apply bN | apply bD | apply bA); exact BK496.out)) : gb501 ≠ gb496))
         have n11_ := Aside0.mk ((by rw [hg]; exact Nat.ne_of_lt (blk_lt (g := gb502) (o := .cells #[.int .i8 0, .int .i8 0] 26 (0, 0)) (by (with_reducible repeat first | apply bN | apply bD | apply bA); exact BK502.out)) : gb502 ≠ gb501))
         have n12_ := Aside0.mk ((by rw [hg]; exact Nat.ne_of_gt (blk_lt (g := gb502) (o := .cells #[.int .i8 0, .int .i8 0] 26 (0, 0)) (by (with_reducible repeat first | apply bN | apply bD | apply bA); exact BK502.out)) : gb501 ≠ gb502))
         clear BK495
         clear BK496
         clear BK502
         clear HB
         have BK495 := n0_
         have BK496 := n1_
         have BK502 := n2_
         have HB := n3_
         have BK501 := n4_
         have GW501 := n5_
         have GE501 := n6_
         have NB495_501 := n7_
         have NB501_495 := n8_
         have NB496_501 := n9_
         have NB501_496 := n10_
         have NB502_501 := n11_
         have NB501_502 := n12_
         clear n0_ n1_ n2_ n3_ n4_ n5_ n6_ n7_ n8_ n9_ n10_ n11_ n12_
         clear hb hbox hg
         refine hK.out _ _ ⟨(blk_cell BK495.out 0).trans rfl, (blk_cell BK495.out 1).trans rfl, (blk_cell BK496.out 0).trans rfl, (blk_cell BK496.out 1).trans rfl⟩ (fun hHeld => ?_)
         clear hK K
         refine norm_ (a' := ?_) ?_ ?_
         rotate_left
         ·show Act.put _ (some 5) _ = _
          simp only [Act.put, List.setIfInBounds_toArray, List.set_cons_zero, List.set_cons_succ, i64_w, i32_w]
          rfl
         exact norm_ (by first | (simp only [putAll, Act.put, List.setIfInBounds_toArray, List.set_cons_zero, List.set_cons_succ]; done) | (simp only [putAll, Act.put, List.setIfInBounds_toArray, List.set_cons_zero, List.set_cons_succ]; rfl)) (hJ1_4_5 (gb501, gb502) _ ⟨hHeld, (by (with_reducible repeat first | apply bN | apply bD | apply bA); exact BK495.out), (by (with_reducible repeat first | apply bN | apply bD | apply bA); exact BK496.out), (by (with_reducible repeat first | apply bN | apply bD | apply bA); exact BK501.out), (by (with_reducible repeat first | apply bN | apply bD | apply bA); exact BK502.out), GW501.out, GE501.out, NB495_501.out, NB501_495.out, NB496_501.out, NB501_496.out, NB502_501.out, NB501_502.out, GW502.out, GE502.out, NB495_502.out, NB502_495.out, NB496_502.out, NB502_496.out, (by repeat (first | (with_reducible first | exact HB.out | apply below_alloc | apply pw_below_drewN | apply below_drew1 | refine below_set ?_ GE495.out | refine below_set ?_ GE496.out | refine below_set ?_ GE502.out | refine below_set ?_ GE501.out) | exact HB.out))⟩)
      ·skip
       rintro gb501 w12 ⟨hS_, h0_, h1_, h2_, h3_, h4_, h5_, h6_, h7_, h8_, h9_⟩
       have n0_ : Aside0 (w12.heap[gb495]? = some (.cells #[.int .i8 a0_0, .int .i8 a0_1] 35 (0, 0))) := ⟨h0_⟩
       have n1_ : Aside0 (w12.heap[gb496]? = some (.cells #[.int .i8 a1_0, .int .i8 a1_1] 35 (0, 0))) := ⟨h1_⟩
       have n2_ : Aside0 (w12.heap[gb501]? = some (.cells #[.int .i8 0, .int .i8 0] 26 (0, 0))) := ⟨h2_⟩
       have n3_ : Aside0 (w.heap.size ≤ gb501) := ⟨h3_⟩
       have n4_ : Aside0 (w.heap.size ≤ gb501) := ⟨h4_⟩
       have n5_ : Aside0 (gb495 ≠ gb501) := ⟨h5_⟩
       have n6_ : Aside0 (gb501 ≠ gb495) := ⟨h6_⟩
       have n7_ : Aside0 (gb496 ≠ gb501) := ⟨h7_⟩
       have n8_ : Aside0 (gb501 ≠ gb496) := ⟨h8_⟩
       have n9_ : Aside0 (Below w.heap.size w w12) := ⟨h9_⟩
       clear BK495
       clear BK496
       clear HB
       clear h0_ h1_ h2_ h3_ h4_ h5_ h6_ h7_ h8_ h9_
       have BK495 := n0_
       have BK496 := n1_
       have BK501 := n2_
       have GW501 := n3_
       have GE501 := n4_
       have NB495_501 := n5_
       have NB501_495 := n6_
       have NB496_501 := n7_
       have NB501_496 := n8_
       have HB := n9_
       clear n0_ n1_ n2_ n3_ n4_ n5_ n6_ n7_ n8_ n9_
       have hHeld : w12.cell? ⟨gb495, 0, none⟩ = some (.int .i8 a0_0) ∧ w12.cell? ⟨gb495, 1, none⟩ = some (.int .i8 a0_1) ∧ w12.cell? ⟨gb496, 0, none⟩ = some (.int .i8 a1_0) ∧ w12.cell? ⟨gb496, 1, none⟩ = some (.int .i8 a1_1) := hS_
       refine norm_ (a' := ?_) ?_ ?_
       rotate_left
       ·simp only [putAll, Act.put, List.setIfInBounds_toArray, List.set_cons_zero, List.set_cons_succ]
        rfl
       refine two_ (i := 3) (j := 5) (Ni := some 16) (Nj := some 6) #[true, true, true, true, true, false, false, false] #[true, true, true, false, true, true, false, false] rfl rfl rfl rfl (two_of HT_.out (by kernel_rfl)) (by decide) (by decide) (fun K hK => ?_) (fun K hK => ?_)
       ·skip
        refine goes_ Tryd.func22 (by kernel_rfl) rfl #[.agg #[.int .i8 a1_0, .int .i8 a1_1]] (by rfl) rfl rfl (by (try simp only [List.map_toArray, List.map_cons, List.map_nil]); first | done | rfl | (simp only [List.length_drop, List.length_take]; rfl)) ?_
        with_reducible refine (strength_Norm.calls a1_0 a1_1 t499 t500 _ A4.out).mono ?_
        rintro e w13 ⟨rfl, hb⟩
        refine ⟨_, rfl, ?_⟩
        have n0_ := Aside0.mk (blk_below (g := gb495) (o := .cells #[.int .i8 a0_0, .int .i8 a0_1] 35 (0, 0)) (by (with_reducible repeat first | apply bN | apply bD | apply bA); exact BK495.out) hb)
        have n1_ := Aside0.mk (blk_below (g := gb496) (o := .cells #[.int .i8 a1_0, .int .i8 a1_1] 35 (0, 0)) (by (with_reducible repeat first | apply bN | apply bD | apply bA); exact BK496.out) hb)
        have n2_ := Aside0.mk (blk_below (g := gb501) (o := .cells #[.int .i8 0, .int .i8 0] 26 (0, 0)) (by (with_reducible repeat first | apply bN | apply bD | apply bA); exact BK501.out) hb)
        have n3_ := Aside0.mk (below_step (by repeat (first | (with_reducible first | exact HB.out | apply below_alloc | apply pw_below_drewN | apply below_drew1 | refine below_set ?_ GE495.out | refine below_set ?_ GE496.out | refine below_set ?_ GE501.out) | exact HB.out)) hb)
        clear BK495
        clear BK496
        clear BK501
        clear HB
        have BK495 := n0_
        have BK496 := n1_
        have BK501 := n2_
        have HB := n3_
        clear n0_ n1_ n2_ n3_
        (try clear hb)
        (try clear hb2)
        (try clear hk)
        (try clear hi)
        refine hK.out _ _ ⟨(blk_cell BK495.out 0).trans rfl, (blk_cell BK495.out 1).trans rfl, (blk_cell BK496.out 0).trans rfl, (blk_cell BK496.out 1).trans rfl⟩ (fun hHeld => ?_)
        clear hK K
        refine norm_ (a' := ?_) ?_ ?_
        rotate_left
        ·show Act.put _ (some 16) _ = _
         simp only [Act.put, List.setIfInBounds_toArray, List.set_cons_zero, List.set_cons_succ, i64_w, i32_w]
         rfl
        exact norm_ (by first | (simp only [putAll, Act.put, List.setIfInBounds_toArray, List.set_cons_zero, List.set_cons_succ]; done) | (simp only [putAll, Act.put, List.setIfInBounds_toArray, List.set_cons_zero, List.set_cons_succ]; rfl)) (hJ1_3_4 (gb501) _ ⟨hHeld, (by (with_reducible repeat first | apply bN | apply bD | apply bA); exact BK495.out), (by (with_reducible repeat first | apply bN | apply bD | apply bA); exact BK496.out), (by (with_reducible repeat first | apply bN | apply bD | apply bA); exact BK501.out), GW501.out, GE501.out, NB495_501.out, NB501_495.out, NB496_501.out, NB501_496.out, (by repeat (first | (with_reducible first | exact HB.out | apply below_alloc | apply pw_below_drewN | apply below_drew1 | refine below_set ?_ GE495.out | refine below_set ?_ GE496.out | refine below_set ?_ GE501.out) | exact HB.out))⟩)
       ·skip
        refine box_step ?hg (N := 6) ?hd (cs := #[.int .i8 0, .int .i8 0]) (t := 26) ?hr ?_; (case hd => rfl); (case hg => rfl); (case hr => first | (go_simp; done) | (go_simp; rfl))
        intro gb502 hg w13 hbox hb
        have n0_ := Aside0.mk (blk_below (g := gb495) (o := .cells #[.int .i8 a0_0, .int .i8 a0_1] 35 (0, 0)) (by (with_reducible repeat first | apply bN | apply bD | apply bA); exact BK495.out) hb)
        have n1_ := Aside0.mk (blk_below (g := gb496) (o := .cells #[.int .i8 a1_0, .int .i8 a1_1] 35 (0, 0)) (by (with_reducible repeat first | apply bN | apply bD | apply bA); exact BK496.out) hb)
        have n2_ := Aside0.mk (blk_below (g := gb501) (o := .cells #[.int .i8 0, .int .i8 0] 26 (0, 0)) (by (with_reducible repeat first | apply bN | apply bD | apply bA); exact BK501.out) hb)
        have n3_ := Aside0.mk (below_step (by repeat (first | (with_reducible first | exact HB.out | apply below_alloc | apply pw_below_drewN | apply below_drew1 | refine below_set ?_ GE495.out | refine below_set ?_ GE496.out | refine below_set ?_ GE501.out) | exact HB.out)) hb)
        have n4_ := Aside0.mk (hbox)
        have n5_ := Aside0.mk ((by rw [hg]; exact (below_size (by repeat (first | (with_reducible first | exact HB.out | apply below_alloc | apply pw_below_drewN | apply below_drew1 | refine below_set ?_ GE495.out | refine below_set ?_ GE496.out | refine below_set ?_ GE501.out) | exact HB.out))) : w.heap.size ≤ gb502))
        have n6_ := Aside0.mk ((by rw [hg]; exact (below_size (by repeat (first | (with_reducible first | exact HB.out | apply below_alloc | apply pw_below_drewN | apply below_drew1 | refine below_set ?_ GE495.out | refine below_set ?_ GE496.out | refine below_set ?_ GE501.out) | exact HB.out))) : w.heap.size ≤ gb502))
        have n7_ := Aside0.mk ((by rw [hg]; exact Nat.ne_of_lt (blk_lt (g := gb495) (o := .cells #[.int .i8 a0_0, .int .i8 a0_1] 35 (0, 0)) (by (with_reducible repeat first | apply bN | apply bD | apply bA); exact BK495.out)) : gb495 ≠ gb502))
        have n8_ := Aside0.mk ((by rw [hg]; exact Nat.ne_of_gt (blk_lt (g := gb495) (o := .cells #[.int .i8 a0_0, .int .i8 a0_1] 35 (0, 0)) (by (with_reducible repeat first | apply bN | apply bD | apply bA); exact BK495.out)) : gb502 ≠ gb495))
        have n9_ := Aside0.mk ((by rw [hg]; exact Nat.ne_of_lt (blk_lt (g := gb496) (o := .cells #[.int .i8 a1_0, .int .i8 a1_1] 35 (0, 0)) (by (with_reducible repeat first | apply bN | apply bD | apply bA); exact BK496.out)) : gb496 ≠ gb502))
        have n10_ := Aside0.mk ((by rw [hg]; exact Nat.ne_of_gt (blk_lt (g := gb496) (o := .cells #[.int .i8 a1_0, .int .i8 a1_1] 35 (0, 0)) (by (with_reducible repeat first | apply bN | apply bD | apply bA); exact BK496.out)) : gb502 ≠ gb496))
        have n11_ := Aside0.mk ((by rw [hg]; exact Nat.ne_of_lt (blk_lt (g := gb501) (o := .cells #[.int .i8 0, .int .i8 0] 26 (0, 0)) (by (with_reducible repeat first | apply bN | apply bD | apply bA); exact BK501.out)) : gb501 ≠ gb502))
        have n12_ := Aside0.mk ((by rw [hg]; exact Nat.ne_of_gt (blk_lt (g := gb501) (o := .cells #[.int .i8 0, .int .i8 0] 26 (0, 0)) (by (with_reducible repeat first | apply bN | apply bD | apply bA); exact BK501.out)) : gb502 ≠ gb501))
        clear BK495
        clear BK496
        clear BK501
        clear HB
        have BK495 := n0_
        have BK496 := n1_
        have BK501 := n2_
        have HB := n3_
        have BK502 := n4_
        have GW502 := n5_
        have GE502 := n6_
        have NB495_502 := n7_
        have NB502_495 := n8_
        have NB496_502 := n9_
        have NB502_496 := n10_
        have NB501_502 := n11_
        have NB502_501 := n12_
        clear n0_ n1_ n2_ n3_ n4_ n5_ n6_ n7_ n8_ n9_ n10_ n11_ n12_
        clear hb hbox hg
        refine hK.out _ _ ⟨(blk_cell BK495.out 0).trans rfl, (blk_cell BK495.out 1).trans rfl, (blk_cell BK496.out 0).trans rfl, (blk_cell BK496.out 1).trans rfl⟩ (fun hHeld => ?_)
        clear hK K
        refine norm_ (a' := ?_) ?_ ?_
        rotate_left
        ·show Act.put _ (some 6) _ = _
         simp only [Act.put, List.setIfInBounds_toArray, List.set_cons_zero, List.set_cons_succ, i64_w, i32_w]
         rfl
        exact norm_ (by first | (simp only [putAll, Act.put, List.setIfInBounds_toArray, List.set_cons_zero, List.set_cons_succ]; done) | (simp only [putAll, Act.put, List.setIfInBounds_toArray, List.set_cons_zero, List.set_cons_succ]; rfl)) (hJ1_4_5 (gb501, gb502) _ ⟨hHeld, (by (with_reducible repeat first | apply bN | apply bD | apply bA); exact BK495.out), (by (with_reducible repeat first | apply bN | apply bD | apply bA); exact BK496.out), (by (with_reducible repeat first | apply bN | apply bD | apply bA); exact BK501.out), (by (with_reducible repeat first | apply bN | apply bD | apply bA); exact BK502.out), GW501.out, GE501.out, NB495_501.out, NB501_495.out, NB496_501.out, NB501_496.out, NB502_501.out, NB501_502.out, GW502.out, GE502.out, NB495_502.out, NB502_495.out, NB496_502.out, NB502_496.out, (by repeat (first | (with_reducible first | exact HB.out | apply below_alloc | apply pw_below_drewN | apply below_drew1 | refine below_set ?_ GE495.out | refine below_set ?_ GE496.out | refine below_set ?_ GE501.out | refine below_set ?_ GE502.out) | exact HB.out))⟩)
     ·skip
      rintro _ w12 ⟨hS_, h0_, h1_, h2_⟩
      have n0_ : Aside0 (w12.heap[gb495]? = some (.cells #[.int .i8 a0_0, .int .i8 a0_1] 35 (0, 0))) := ⟨h0_⟩
      have n1_ : Aside0 (w12.heap[gb496]? = some (.cells #[.int .i8 a1_0, .int .i8 a1_1] 35 (0, 0))) := ⟨h1_⟩
      have n2_ : Aside0 (Below w.heap.size w w12) := ⟨h2_⟩
      clear BK495
      clear BK496
      clear HB
      clear h0_ h1_ h2_
      have BK495 := n0_
      have BK496 := n1_
      have HB := n2_
      clear n0_ n1_ n2_
      have hHeld : w12.cell? ⟨gb495, 0, none⟩ = some (.int .i8 a0_0) ∧ w12.cell? ⟨gb495, 1, none⟩ = some (.int .i8 a0_1) ∧ w12.cell? ⟨gb496, 0, none⟩ = some (.int .i8 a1_0) ∧ w12.cell? ⟨gb496, 1, none⟩ = some (.int .i8 a1_1) := hS_
      refine norm_ (a' := ?_) ?_ ?_
      rotate_left
      ·simp only [putAll, Act.put, List.setIfInBounds_toArray, List.set_cons_zero, List.set_cons_succ]
       rfl
      refine two_ (i := 4) (j := 5) (Ni := some 5) (Nj := some 6) #[true, true, true, true, true, false, false, false] #[true, true, true, true, false, true, false, false] rfl rfl rfl rfl (two_of HT_.out (by kernel_rfl)) (by decide) (by decide) (fun K hK => ?_) (fun K hK => ?_)
      ·skip
       refine box_step ?hg (N := 5) ?hd (cs := #[.int .i8 0, .int .i8 0]) (t := 26) ?hr ?_; (case hd => rfl); (case hg => rfl); (case hr => first | (go_simp; done) | (go_simp; rfl))
       intro gb501 hg w13 hbox hb
       have n0_ := Aside0.mk (blk_below (g := gb495) (o := .cells #[.int .i8 a0_0, .int .i8 a0_1] 35 (0, 0)) (by (with_reducible repeat first | apply bN | apply bD | apply bA); exact BK495.out) hb)
       have n1_ := Aside0.mk (blk_below (g := gb496) (o := .cells #[.int .i8 a1_0, .int .i8 a1_1] 35 (0, 0)) (by (with_reducible repeat first | apply bN | apply bD | apply bA); exact BK496.out) hb)
       have n2_ := Aside0.mk (below_step (by repeat (first | (with_reducible first | exact HB.out | apply below_alloc | apply pw_below_drewN | apply below_drew1 | refine below_set ?_ GE495.out | refine below_set ?_ GE496.out) | exact HB.out)) hb)
       have n3_ := Aside0.mk (hbox)
       have n4_ := Aside0.mk ((by rw [hg]; exact (below_size (by repeat (first | (with_reducible first | exact HB.out | apply below_alloc | apply pw_below_drewN | apply below_drew1 | refine below_set ?_ GE495.out | refine below_set ?_ GE496.out) | exact HB.out))) : w.heap.size ≤ gb501))
       have n5_ := Aside0.mk ((by rw [hg]; exact (below_size (by repeat (first | (with_reducible first | exact HB.out | apply below_alloc | apply pw_below_drewN | apply below_drew1 | refine below_set ?_ GE495.out | refine below_set ?_ GE496.out) | exact HB.out))) : w.heap.size ≤ gb501))
       have n6_ := Aside0.mk ((by rw [hg]; exact Nat.ne_of_lt (blk_lt (g := gb495) (o := .cells #[.int .i8 a0_0, .int .i8 a0_1] 35 (0, 0)) (by (with_reducible repeat first | apply bN | apply bD | apply bA); exact BK495.out)) : gb495 ≠ gb501))
       have n7_ := Aside0.mk ((by rw [hg]; exact Nat.ne_of_gt (blk_lt (g := gb495) (o := .cells #[.int .i8 a0_0, .int .i8 a0_1] 35 (0, 0)) (by (with_reducible repeat first | apply bN | apply bD | apply bA); exact BK495.out)) : gb501 ≠ gb495))
       have n8_ := Aside0.mk ((by rw [hg]; exact Nat.ne_of_lt (blk_lt (g := gb496) (o := .cells #[.int .i8 a1_0, .int .i8 a1_1] 35 (0, 0)) (by (with_reducible repeat first | apply bN | apply bD | apply bA); exact BK496.out)) : gb496 ≠ gb501))
       have n9_ := Aside0.mk ((by rw [hg]; exact Nat.ne_of_gt (blk_lt (g := gb496) (o := .cells #[.int .i8 a1_0, .int .i8 a1_1] 35 (0, 0)) (by (with_reducible repeat first | apply bN | apply bD | apply bA); exact BK496.out)) : gb501 ≠ gb496))
       clear BK495
       clear BK496
       clear HB
       have BK495 := n0_
       have BK496 := n1_
       have HB := n2_
       have BK501 := n3_
       have GW501 := n4_
       have GE501 := n5_
       have NB495_501 := n6_
       have NB501_495 := n7_
       have NB496_501 := n8_
       have NB501_496 := n9_
       clear n0_ n1_ n2_ n3_ n4_ n5_ n6_ n7_ n8_ n9_
       clear hb hbox hg
       refine hK.out _ _ ⟨(blk_cell BK495.out 0).trans rfl, (blk_cell BK495.out 1).trans rfl, (blk_cell BK496.out 0).trans rfl, (blk_cell BK496.out 1).trans rfl⟩ (fun hHeld => ?_)
       clear hK K
       refine norm_ (a' := ?_) ?_ ?_
       rotate_left
       ·show Act.put _ (some 5) _ = _
        simp only [Act.put, List.setIfInBounds_toArray, List.set_cons_zero, List.set_cons_succ, i64_w, i32_w]
        rfl
       exact norm_ (by first | (simp only [putAll, Act.put, List.setIfInBounds_toArray, List.set_cons_zero, List.set_cons_succ]; done) | (simp only [putAll, Act.put, List.setIfInBounds_toArray, List.set_cons_zero, List.set_cons_succ]; rfl)) (hJ1_3_4 (gb501) _ ⟨hHeld, (by (with_reducible repeat first | apply bN | apply bD | apply bA); exact BK495.out), (by (with_reducible repeat first | apply bN | apply bD | apply bA); exact BK496.out), (by (with_reducible repeat first | apply bN | apply bD | apply bA); exact BK501.out), GW501.out, GE501.out, NB495_501.out, NB501_495.out, NB496_501.out, NB501_496.out, (by repeat (first | (with_reducible first | exact HB.out | apply below_alloc | apply pw_below_drewN | apply below_drew1 | refine below_set ?_ GE495.out | refine below_set ?_ GE496.out | refine below_set ?_ GE501.out) | exact HB.out))⟩)
      ·skip
       refine box_step ?hg (N := 6) ?hd (cs := #[.int .i8 0, .int .i8 0]) (t := 26) ?hr ?_; (case hd => rfl); (case hg => rfl); (case hr => first | (go_simp; done) | (go_simp; rfl))
       intro gb502 hg w13 hbox hb
       have n0_ := Aside0.mk (blk_below (g := gb495) (o := .cells #[.int .i8 a0_0, .int .i8 a0_1] 35 (0, 0)) (by (with_reducible repeat first | apply bN | apply bD | apply bA); exact BK495.out) hb)
       have n1_ := Aside0.mk (blk_below (g := gb496) (o := .cells #[.int .i8 a1_0, .int .i8 a1_1] 35 (0, 0)) (by (with_reducible repeat first | apply bN | apply bD | apply bA); exact BK496.out) hb)
       have n2_ := Aside0.mk (below_step (by repeat (first | (with_reducible first | exact HB.out | apply below_alloc | apply pw_below_drewN | apply below_drew1 | refine below_set ?_ GE495.out | refine below_set ?_ GE496.out) | exact HB.out)) hb)
       have n3_ := Aside0.mk (hbox)
       have n4_ := Aside0.mk ((by rw [hg]; exact (below_size (by repeat (first | (with_reducible first | exact HB.out | apply below_alloc | apply pw_below_drewN | apply below_drew1 | refine below_set ?_ GE495.out | refine below_set ?_ GE496.out) | exact HB.out))) : w.heap.size ≤ gb502))
       have n5_ := Aside0.mk ((by rw [hg]; exact (below_size (by repeat (first | (with_reducible first | exact HB.out | apply below_alloc | apply pw_below_drewN | apply below_drew1 | refine below_set ?_ GE495.out | refine below_set ?_ GE496.out) | exact HB.out))) : w.heap.size ≤ gb502))
       have n6_ := Aside0.mk ((by rw [hg]; exact Nat.ne_of_lt (blk_lt (g := gb495) (o := .cells #[.int .i8 a0_0, .int .i8 a0_1] 35 (0, 0)) (by (with_reducible repeat first | apply bN | apply bD | apply bA); exact BK495.out)) : gb495 ≠ gb502))
       have n7_ := Aside0.mk ((by rw [hg]; exact Nat.ne_of_gt (blk_lt (g := gb495) (o := .cells #[.int .i8 a0_0, .int .i8 a0_1] 35 (0, 0)) (by (with_reducible repeat first | apply bN | apply bD | apply bA); exact BK495.out)) : gb502 ≠ gb495))
       have n8_ := Aside0.mk ((by rw [hg]; exact Nat.ne_of_lt (blk_lt (g := gb496) (o := .cells #[.int .i8 a1_0, .int .i8 a1_1] 35 (0, 0)) (by (with_reducible repeat first | apply bN | apply bD | apply bA); exact BK496.out)) : gb496 ≠ gb502))
       have n9_ := Aside0.mk ((by rw [hg]; exact Nat.ne_of_gt (blk_lt (g := gb496) (o := .cells #[.int .i8 a1_0, .int .i8 a1_1] 35 (0, 0)) (by (with_reducible repeat first | apply bN | apply bD | apply bA); exact BK496.out)) : gb502 ≠ gb496))
       clear BK495
       clear BK496
       clear HB
       have BK495 := n0_
       have BK496 := n1_
       have HB := n2_
       have BK502 := n3_
       have GW502 := n4_
       have GE502 := n5_
       have NB495_502 := n6_
       have NB502_495 := n7_
       have NB496_502 := n8_
       have NB502_496 := n9_
       clear n0_ n1_ n2_ n3_ n4_ n5_ n6_ n7_ n8_ n9_
       clear hb hbox hg
       refine hK.out _ _ ⟨(blk_cell BK495.out 0).trans rfl, (blk_cell BK495.out 1).trans rfl, (blk_cell BK496.out 0).trans rfl, (blk_cell BK496.out 1).trans rfl⟩ (fun hHeld => ?_)
       clear hK K
       refine norm_ (a' := ?_) ?_ ?_
       rotate_left
       ·show Act.put _ (some 6) _ = _
        simp only [Act.put, List.setIfInBounds_toArray, List.set_cons_zero, List.set_cons_succ, i64_w, i32_w]
        rfl
       exact norm_ (by first | (simp only [putAll, Act.put, List.setIfInBounds_toArray, List.set_cons_zero, List.set_cons_succ]; done) | (simp only [putAll, Act.put, List.setIfInBounds_toArray, List.set_cons_zero, List.set_cons_succ]; rfl)) (hJ1_3_5 (gb502) _ ⟨hHeld, (by (with_reducible repeat first | apply bN | apply bD | apply bA); exact BK495.out), (by (with_reducible repeat first | apply bN | apply bD | apply bA); exact BK496.out), (by (with_reducible repeat first | apply bN | apply bD | apply bA); exact BK502.out), GW502.out, GE502.out, NB495_502.out, NB502_495.out, NB496_502.out, NB502_496.out, (by repeat (first | (with_reducible first | exact HB.out | apply below_alloc | apply pw_below_drewN | apply below_drew1 | refine below_set ?_ GE495.out | refine below_set ?_ GE496.out | refine below_set ?_ GE502.out) | exact HB.out))⟩)
    ·skip
     rintro ⟨gb501, gb502⟩ w13 ⟨hS_, h0_, h1_, h2_, h3_, h4_, h5_, h6_, h7_, h8_, h9_, h10_, h11_, h12_, h13_, h14_, h15_, h16_, h17_, h18_⟩
     have n0_ : Aside0 (w13.heap[gb495]? = some (.cells #[.int .i8 a0_0, .int .i8 a0_1] 35 (0, 0))) := ⟨h0_⟩
     have n1_ : Aside0 (w13.heap[gb496]? = some (.cells #[.int .i8 a1_0, .int .i8 a1_1] 35 (0, 0))) := ⟨h1_⟩
     have n2_ : Aside0 (w13.heap[gb501]? = some (.cells #[.int .i8 0, .int .i8 0] 26 (0, 0))) := ⟨h2_⟩
     have n3_ : Aside0 (w13.heap[gb502]? = some (.cells #[.int .i8 0, .int .i8 0] 26 (0, 0))) := ⟨h3_⟩
     have n4_ : Aside0 (w.heap.size ≤ gb501) := ⟨h4_⟩
     have n5_ : Aside0 (w.heap.size ≤ gb501) := ⟨h5_⟩
     have n6_ : Aside0 (gb495 ≠ gb501) := ⟨h6_⟩
     have n7_ : Aside0 (gb501 ≠ gb495) := ⟨h7_⟩
     have n8_ : Aside0 (gb496 ≠ gb501) := ⟨h8_⟩
     have n9_ : Aside0 (gb501 ≠ gb496) := ⟨h9_⟩
     have n10_ : Aside0 (gb502 ≠ gb501) := ⟨h10_⟩
     have n11_ : Aside0 (gb501 ≠ gb502) := ⟨h11_⟩
     have n12_ : Aside0 (w.heap.size ≤ gb502) := ⟨h12_⟩
     have n13_ : Aside0 (w.heap.size ≤ gb502) := ⟨h13_⟩
     have n14_ : Aside0 (gb495 ≠ gb502) := ⟨h14_⟩
     have n15_ : Aside0 (gb502 ≠ gb495) := ⟨h15_⟩
     have n16_ : Aside0 (gb496 ≠ gb502) := ⟨h16_⟩
     have n17_ : Aside0 (gb502 ≠ gb496) := ⟨h17_⟩
     have n18_ : Aside0 (Below w.heap.size w w13) := ⟨h18_⟩
     clear BK495
     clear BK496
     clear HB
     clear h0_ h1_ h2_ h3_ h4_ h5_ h6_ h7_ h8_ h9_ h10_ h11_ h12_ h13_ h14_ h15_ h16_ h17_ h18_
     have BK495 := n0_
     have BK496 := n1_
     have BK501 := n2_
     have BK502 := n3_
     have GW501 := n4_
     have GE501 := n5_
     have NB495_501 := n6_
     have NB501_495 := n7_
     have NB496_501 := n8_
     have NB501_496 := n9_
     have NB502_501 := n10_
     have NB501_502 := n11_
     have GW502 := n12_
     have GE502 := n13_
     have NB495_502 := n14_
     have NB502_495 := n15_
     have NB496_502 := n16_
     have NB502_496 := n17_
     have HB := n18_
     clear n0_ n1_ n2_ n3_ n4_ n5_ n6_ n7_ n8_ n9_ n10_ n11_ n12_ n13_ n14_ n15_ n16_ n17_ n18_
     have hHeld : w13.cell? ⟨gb495, 0, none⟩ = some (.int .i8 a0_0) ∧ w13.cell? ⟨gb495, 1, none⟩ = some (.int .i8 a0_1) ∧ w13.cell? ⟨gb496, 0, none⟩ = some (.int .i8 a1_0) ∧ w13.cell? ⟨gb496, 1, none⟩ = some (.int .i8 a1_1) := hS_
     refine norm_ (a' := ?_) ?_ ?_
     rotate_left
     ·simp only [putAll, Act.put, List.setIfInBounds_toArray, List.set_cons_zero, List.set_cons_succ]
      rfl
     refine one_ (i := 3) (N := some 16) #[true, true, true, true, true, true, false, false] rfl rfl (one_of HT_.out (by kernel_rfl)) (by decide) (fun K hK => ?_)
     refine goes_ Tryd.func22 (by kernel_rfl) rfl #[.agg #[.int .i8 a1_0, .int .i8 a1_1]] (by rfl) rfl rfl (by (try simp only [List.map_toArray, List.map_cons, List.map_nil]); first | done | rfl | (simp only [List.length_drop, List.length_take]; rfl)) ?_
     with_reducible refine (strength_Norm.calls a1_0 a1_1 t499 t500 _ A4.out).mono ?_
     rintro e w14 ⟨rfl, hb⟩
     refine ⟨_, rfl, ?_⟩
     have n0_ := Aside0.mk (blk_below (g := gb495) (o := .cells #[.int .i8 a0_0, .int .i8 a0_1] 35 (0, 0)) (by (with_reducible repeat first | apply bN | apply bD | apply bA); exact BK495.out) hb)
     have n1_ := Aside0.mk (blk_below (g := gb496) (o := .cells #[.int .i8 a1_0, .int .i8 a1_1] 35 (0, 0)) (by (with_reducible repeat first | apply bN | apply bD | apply bA); exact BK496.out) hb)
     have n2_ := Aside0.mk (blk_below (g := gb501) (o := .cells #[.int .i8 0, .int .i8 0] 26 (0, 0)) (by (with_reducible repeat first | apply bN | apply bD | apply bA); exact BK501.out) hb)
     have n3_ := Aside0.mk (blk_below (g := gb502) (o := .cells #[.int .i8 0, .int .i8 0] 26 (0, 0)) (by (with_reducible repeat first | apply bN | apply bD | apply bA); exact BK502.out) hb)
     have n4_ := Aside0.mk (below_step (by repeat (first | (with_reducible first | exact HB.out | apply below_alloc | apply pw_below_drewN | apply below_drew1 | refine below_set ?_ GE495.out | refine below_set ?_ GE496.out | refine below_set ?_ GE501.out | refine below_set ?_ GE502.out) | exact HB.out)) hb)
     clear BK495
     clear BK496
     clear BK501
     clear BK502
     clear HB
     have BK495 := n0_
     have BK496 := n1_
     have BK501 := n2_
     have BK502 := n3_
     have HB := n4_
     clear n0_ n1_ n2_ n3_ n4_
     (try clear hb)
     (try clear hb2)
     (try clear hk)
     (try clear hi)
     refine hK.out _ _ ⟨(blk_cell BK495.out 0).trans rfl, (blk_cell BK495.out 1).trans rfl, (blk_cell BK496.out 0).trans rfl, (blk_cell BK496.out 1).trans rfl⟩ (fun hHeld => ?_)
     clear hK K
     refine norm_ (a' := ?_) ?_ ?_
     rotate_left
     ·show Act.put _ (some 16) _ = _
      simp only [Act.put, List.setIfInBounds_toArray, List.set_cons_zero, List.set_cons_succ, i64_w, i32_w]
      rfl
     exact norm_ (by first | (simp only [putAll, Act.put, List.setIfInBounds_toArray, List.set_cons_zero, List.set_cons_succ]; done) | (simp only [putAll, Act.put, List.setIfInBounds_toArray, List.set_cons_zero, List.set_cons_succ]; rfl)) (hJ1_3_4_5 (gb501, gb502) _ ⟨hHeld, (by (with_reducible repeat first | apply bN | apply bD | apply bA); exact BK495.out), (by (with_reducible repeat first | apply bN | apply bD | apply bA); exact BK496.out), (by (with_reducible repeat first | apply bN | apply bD | apply bA); exact BK501.out), (by (with_reducible repeat first | apply bN | apply bD | apply bA); exact BK502.out), GW501.out, GE501.out, NB495_501.out, NB501_495.out, NB496_501.out, NB501_496.out, NB502_501.out, NB501_502.out, GW502.out, GE502.out, NB495_502.out, NB502_495.out, NB496_502.out, NB502_496.out, (by repeat (first | (with_reducible first | exact HB.out | apply below_alloc | apply pw_below_drewN | apply below_drew1 | refine below_set ?_ GE495.out | refine below_set ?_ GE496.out | refine below_set ?_ GE501.out | refine below_set ?_ GE502.out) | exact HB.out))⟩)
   ·skip
    rintro gb502 w13 ⟨hS_, h0_, h1_, h2_, h3_, h4_, h5_, h6_, h7_, h8_, h9_⟩
    have n0_ : Aside0 (w13.heap[gb495]? = some (.cells #[.int .i8 a0_0, .int .i8 a0_1] 35 (0, 0))) := ⟨h0_⟩
    have n1_ : Aside0 (w13.heap[gb496]? = some (.cells #[.int .i8 a1_0, .int .i8 a1_1] 35 (0, 0))) := ⟨h1_⟩
    have n2_ : Aside0 (w13.heap[gb502]? = some (.cells #[.int .i8 0, .int .i8 0] 26 (0, 0))) := ⟨h2_⟩
    have n3_ : Aside0 (w.heap.size ≤ gb502) := ⟨h3_⟩
    have n4_ : Aside0 (w.heap.size ≤ gb502) := ⟨h4_⟩
    have n5_ : Aside0 (gb495 ≠ gb502) := ⟨h5_⟩
    have n6_ : Aside0 (gb502 ≠ gb495) := ⟨h6_⟩
    have n7_ : Aside0 (gb496 ≠ gb502) := ⟨h7_⟩
    have n8_ : Aside0 (gb502 ≠ gb496) := ⟨h8_⟩
    have n9_ : Aside0 (Below w.heap.size w w13) := ⟨h9_⟩
    clear BK495
    clear BK496
    clear HB
    clear h0_ h1_ h2_ h3_ h4_ h5_ h6_ h7_ h8_ h9_
    have BK495 := n0_
    have BK496 := n1_
    have BK502 := n2_
    have GW502 := n3_
    have GE502 := n4_
    have NB495_502 := n5_
    have NB502_495 := n6_
    have NB496_502 := n7_
    have NB502_496 := n8_
    have HB := n9_
    clear n0_ n1_ n2_ n3_ n4_ n5_ n6_ n7_ n8_ n9_
    have hHeld : w13.cell? ⟨gb495, 0, none⟩ = some (.int .i8 a0_0) ∧ w13.cell? ⟨gb495, 1, none⟩ = some (.int .i8 a0_1) ∧ w13.cell? ⟨gb496, 0, none⟩ = some (.int .i8 a1_0) ∧ w13.cell? ⟨gb496, 1, none⟩ = some (.int .i8 a1_1) := hS_
    refine norm_ (a' := ?_) ?_ ?_
    rotate_left
    ·simp only [putAll, Act.put, List.setIfInBounds_toArray, List.set_cons_zero, List.set_cons_succ]
     rfl
    refine one_ (i := 4) (N := some 5) #[true, true, true, true, true, true, false, false] rfl rfl (one_of HT_.out (by kernel_rfl)) (by decide) (fun K hK => ?_)
    refine box_step ?hg (N := 5) ?hd (cs := #[.int .i8 0, .int .i8 0]) (t := 26) ?hr ?_; (case hd => rfl); (case hg => rfl); (case hr => first | (go_simp; done) | (go_simp; rfl))
    intro gb501 hg w14 hbox hb
    have n0_ := Aside0.mk (blk_below (g := gb495) (o := .cells #[.int .i8 a0_0, .int .i8 a0_1] 35 (0, 0)) (by (with_reducible repeat first | apply bN | apply bD | apply bA); exact BK495.out) hb)
    have n1_ := Aside0.mk (blk_below (g := gb496) (o := .cells #[.int .i8 a1_0, .int .i8 a1_1] 35 (0, 0)) (by (with_reducible repeat first | apply bN | apply bD | apply bA); exact BK496.out) hb)
    have n2_ := Aside0.mk (blk_below (g := gb502) (o := .cells #[.int .i8 0, .int .i8 0] 26 (0, 0)) (by (with_reducible repeat first | apply bN | apply bD | apply bA); exact BK502.out) hb)
    have n3_ := Aside0.mk (below_step (by repeat (first | (with_reducible first | exact HB.out | apply below_alloc | apply pw_below_drewN | apply below_drew1 | refine below_set ?_ GE495.out | refine below_set ?_ GE496.out | refine below_set ?_ GE502.out) | exact HB.out)) hb)
    have n4_ := Aside0.mk (hbox)
    have n5_ := Aside0.mk ((by rw [hg]; exact (below_size (by repeat (first | (with_reducible first | exact HB.out | apply below_alloc | apply pw_below_drewN | apply below_drew1 | refine below_set ?_ GE495.out | refine below_set ?_ GE496.out | refine below_set ?_ GE502.out) | exact HB.out))) : w.heap.size ≤ gb501))
    have n6_ := Aside0.mk ((by rw [hg]; exact (below_size (by repeat (first | (with_reducible first | exact HB.out | apply below_alloc | apply pw_below_drewN | apply below_drew1 | refine below_set ?_ GE495.out | refine below_set ?_ GE496.out | refine below_set ?_ GE502.out) | exact HB.out))) : w.heap.size ≤ gb501))
    have n7_ := Aside0.mk ((by rw [hg]; exact Nat.ne_of_lt (blk_lt (g := gb495) (o := .cells #[.int .i8 a0_0, .int .i8 a0_1] 35 (0, 0)) (by (with_reducible repeat first | apply bN | apply bD | apply bA); exact BK495.out)) : gb495 ≠ gb501))
    have n8_ := Aside0.mk ((by rw [hg]; exact Nat.ne_of_gt (blk_lt (g := gb495) (o := .cells #[.int .i8 a0_0, .int .i8 a0_1] 35 (0, 0)) (by (with_reducible repeat first | apply bN | apply bD | apply bA); exact BK495.out)) : gb501 ≠ gb495))
    have n9_ := Aside0.mk ((by rw [hg]; exact Nat.ne_of_lt (blk_lt (g := gb496) (o := .cells #[.int .i8 a1_0, .int .i8 a1_1] 35 (0, 0)) (by (with_reducible repeat first | apply bN | apply bD | apply bA); exact BK496.out)) : gb496 ≠ gb501))
    have n10_ := Aside0.mk ((by rw [hg]; exact Nat.ne_of_gt (blk_lt (g := gb496) (o := .cells #[.int .i8 a1_0, .int .i8 a1_1] 35 (0, 0)) (by (with_reducible repeat first | apply bN | apply bD | apply bA); exact BK496.out)) : gb501 ≠ gb496))
    have n11_ := Aside0.mk ((by rw [hg]; exact Nat.ne_of_lt (blk_lt (g := gb502) (o := .cells #[.int .i8 0, .int .i8 0] 26 (0, 0)) (by (with_reducible repeat first | apply bN | apply bD | apply bA); exact BK502.out)) : gb502 ≠ gb501))
    have n12_ := Aside0.mk ((by rw [hg]; exact Nat.ne_of_gt (blk_lt (g := gb502) (o := .cells #[.int .i8 0, .int .i8 0] 26 (0, 0)) (by (with_reducible repeat first | apply bN | apply bD | apply bA); exact BK502.out)) : gb501 ≠ gb502))
    clear BK495
    clear BK496
    clear BK502
    clear HB
    have BK495 := n0_
    have BK496 := n1_
    have BK502 := n2_
    have HB := n3_
    have BK501 := n4_
    have GW501 := n5_
    have GE501 := n6_
    have NB495_501 := n7_
    have NB501_495 := n8_
    have NB496_501 := n9_
    have NB501_496 := n10_
    have NB502_501 := n11_
    have NB501_502 := n12_
    clear n0_ n1_ n2_ n3_ n4_ n5_ n6_ n7_ n8_ n9_ n10_ n11_ n12_
    clear hb hbox hg
    refine hK.out _ _ ⟨(blk_cell BK495.out 0).trans rfl, (blk_cell BK495.out 1).trans rfl, (blk_cell BK496.out 0).trans rfl, (blk_cell BK496.out 1).trans rfl⟩ (fun hHeld => ?_)
    clear hK K
    refine norm_ (a' := ?_) ?_ ?_
    rotate_left
    ·show Act.put _ (some 5) _ = _
     simp only [Act.put, List.setIfInBounds_toArray, List.set_cons_zero, List.set_cons_succ, i64_w, i32_w]
     rfl
    exact norm_ (by first | (simp only [putAll, Act.put, List.setIfInBounds_toArray, List.set_cons_zero, List.set_cons_succ]; done) | (simp only [putAll, Act.put, List.setIfInBounds_toArray, List.set_cons_zero, List.set_cons_succ]; rfl)) (hJ1_3_4_5 (gb501, gb502) _ ⟨hHeld, (by (with_reducible repeat first | apply bN | apply bD | apply bA); exact BK495.out), (by (with_reducible repeat first | apply bN | apply bD | apply bA); exact BK496.out), (by (with_reducible repeat first | apply bN | apply bD | apply bA); exact BK501.out), (by (with_reducible repeat first | apply bN | apply bD | apply bA); exact BK502.out), GW501.out, GE501.out, NB495_501.out, NB501_495.out, NB496_501.out, NB501_496.out, NB502_501.out, NB501_502.out, GW502.out, GE502.out, NB495_502.out, NB502_495.out, NB496_502.out, NB502_496.out, (by repeat (first | (with_reducible first | exact HB.out | apply below_alloc | apply pw_below_drewN | apply below_drew1 | refine below_set ?_ GE495.out | refine below_set ?_ GE496.out | refine below_set ?_ GE502.out | refine below_set ?_ GE501.out) | exact HB.out))⟩)
  ·skip
   rintro gb501 w13 ⟨hS_, h0_, h1_, h2_, h3_, h4_, h5_, h6_, h7_, h8_, h9_⟩
   have n0_ : Aside0 (w13.heap[gb495]? = some (.cells #[.int .i8 a0_0, .int .i8 a0_1] 35 (0, 0))) := ⟨h0_⟩
   have n1_ : Aside0 (w13.heap[gb496]? = some (.cells #[.int .i8 a1_0, .int .i8 a1_1] 35 (0, 0))) := ⟨h1_⟩
   have n2_ : Aside0 (w13.heap[gb501]? = some (.cells #[.int .i8 0, .int .i8 0] 26 (0, 0))) := ⟨h2_⟩
   have n3_ : Aside0 (w.heap.size ≤ gb501) := ⟨h3_⟩
   have n4_ : Aside0 (w.heap.size ≤ gb501) := ⟨h4_⟩
   have n5_ : Aside0 (gb495 ≠ gb501) := ⟨h5_⟩
   have n6_ : Aside0 (gb501 ≠ gb495) := ⟨h6_⟩
   have n7_ : Aside0 (gb496 ≠ gb501) := ⟨h7_⟩
   have n8_ : Aside0 (gb501 ≠ gb496) := ⟨h8_⟩
   have n9_ : Aside0 (Below w.heap.size w w13) := ⟨h9_⟩
   clear BK495
   clear BK496
   clear HB
   clear h0_ h1_ h2_ h3_ h4_ h5_ h6_ h7_ h8_ h9_
   have BK495 := n0_
   have BK496 := n1_
   have BK501 := n2_
   have GW501 := n3_
   have GE501 := n4_
   have NB495_501 := n5_
   have NB501_495 := n6_
   have NB496_501 := n7_
   have NB501_496 := n8_
   have HB := n9_
   clear n0_ n1_ n2_ n3_ n4_ n5_ n6_ n7_ n8_ n9_
   have hHeld : w13.cell? ⟨gb495, 0, none⟩ = some (.int .i8 a0_0) ∧ w13.cell? ⟨gb495, 1, none⟩ = some (.int .i8 a0_1) ∧ w13.cell? ⟨gb496, 0, none⟩ = some (.int .i8 a1_0) ∧ w13.cell? ⟨gb496, 1, none⟩ = some (.int .i8 a1_1) := hS_
   refine norm_ (a' := ?_) ?_ ?_
   rotate_left
   ·simp only [putAll, Act.put, List.setIfInBounds_toArray, List.set_cons_zero, List.set_cons_succ]
    rfl
   refine one_ (i := 5) (N := some 6) #[true, true, true, true, true, true, false, false] rfl rfl (one_of HT_.out (by kernel_rfl)) (by decide) (fun K hK => ?_)
   refine box_step ?hg (N := 6) ?hd (cs := #[.int .i8 0, .int .i8 0]) (t := 26) ?hr ?_; (case hd => rfl); (case hg => rfl); (case hr => first | (go_simp; done) | (go_simp; rfl))
   intro gb502 hg w14 hbox hb
   have n0_ := Aside0.mk (blk_below (g := gb495) (o := .cells #[.int .i8 a0_0, .int .i8 a0_1] 35 (0, 0)) (by (with_reducible repeat first | apply bN | apply bD | apply bA); exact BK495.out) hb)
   have n1_ := Aside0.mk (blk_below (g := gb496) (o := .cells #[.int .i8 a1_0, .int .i8 a1_1] 35 (0, 0)) (by (with_reducible repeat first | apply bN | apply bD | apply bA); exact BK496.out) hb)
   have n2_ := Aside0.mk (blk_below (g := gb501) (o := .cells #[.int .i8 0, .int .i8 0] 26 (0, 0)) (by (with_reducible repeat first | apply bN | apply bD | apply bA); exact BK501.out) hb)
   have n3_ := Aside0.mk (below_step (by repeat (first | (with_reducible first | exact HB.out | apply below_alloc | apply pw_below_drewN | apply below_drew1 | refine below_set ?_ GE495.out | refine below_set ?_ GE496.out | refine below_set ?_ GE501.out) | exact HB.out)) hb)
   have n4_ := Aside0.mk (hbox)
   have n5_ := Aside0.mk ((by rw [hg]; exact (below_size (by repeat (first | (with_reducible first | exact HB.out | apply below_alloc | apply pw_below_drewN | apply below_drew1 | refine below_set ?_ GE495.out | refine below_set ?_ GE496.out | refine below_set ?_ GE501.out) | exact HB.out))) : w.heap.size ≤ gb502))
   have n6_ := Aside0.mk ((by rw [hg]; exact (below_size (by repeat (first | (with_reducible first | exact HB.out | apply below_alloc | apply pw_below_drewN | apply below_drew1 | refine below_set ?_ GE495.out | refine below_set ?_ GE496.out | refine below_set ?_ GE501.out) | exact HB.out))) : w.heap.size ≤ gb502))
   have n7_ := Aside0.mk ((by rw [hg]; exact Nat.ne_of_lt (blk_lt (g := gb495) (o := .cells #[.int .i8 a0_0, .int .i8 a0_1] 35 (0, 0)) (by (with_reducible repeat first | apply bN | apply bD | apply bA); exact BK495.out)) : gb495 ≠ gb502))
   have n8_ := Aside0.mk ((by rw [hg]; exact Nat.ne_of_gt (blk_lt (g := gb495) (o := .cells #[.int .i8 a0_0, .int .i8 a0_1] 35 (0, 0)) (by (with_reducible repeat first | apply bN | apply bD | apply bA); exact BK495.out)) : gb502 ≠ gb495))
   have n9_ := Aside0.mk ((by rw [hg]; exact Nat.ne_of_lt (blk_lt (g := gb496) (o := .cells #[.int .i8 a1_0, .int .i8 a1_1] 35 (0, 0)) (by (with_reducible repeat first | apply bN | apply bD | apply bA); exact BK496.out)) : gb496 ≠ gb502))
   have n10_ := Aside0.mk ((by rw [hg]; exact Nat.ne_of_gt (blk_lt (g := gb496) (o := .cells #[.int .i8 a1_0, .int .i8 a1_1] 35 (0, 0)) (by (with_reducible repeat first | apply bN | apply bD | apply bA); exact BK496.out)) : gb502 ≠ gb496))
   have n11_ := Aside0.mk ((by rw [hg]; exact Nat.ne_of_lt (blk_lt (g := gb501) (o := .cells #[.int .i8 0, .int .i8 0] 26 (0, 0)) (by (with_reducible repeat first | apply bN | apply bD | apply bA); exact BK501.out)) : gb501 ≠ gb502))
   have n12_ := Aside0.mk ((by rw [hg]; exact Nat.ne_of_gt (blk_lt (g := gb501) (o := .cells #[.int .i8 0, .int .i8 0] 26 (0, 0)) (by (with_reducible repeat first | apply bN | apply bD | apply bA); exact BK501.out)) : gb502 ≠ gb501))
   clear BK495
   clear BK496
   clear BK501
   clear HB
   have BK495 := n0_
   have BK496 := n1_
   have BK501 := n2_
   have HB := n3_
   have BK502 := n4_
   have GW502 := n5_
   have GE502 := n6_
   have NB495_502 := n7_
   have NB502_495 := n8_
   have NB496_502 := n9_
   have NB502_496 := n10_
   have NB501_502 := n11_
   have NB502_501 := n12_
   clear n0_ n1_ n2_ n3_ n4_ n5_ n6_ n7_ n8_ n9_ n10_ n11_ n12_
   clear hb hbox hg
   refine hK.out _ _ ⟨(blk_cell BK495.out 0).trans rfl, (blk_cell BK495.out 1).trans rfl, (blk_cell BK496.out 0).trans rfl, (blk_cell BK496.out 1).trans rfl⟩ (fun hHeld => ?_)
   clear hK K
   refine norm_ (a' := ?_) ?_ ?_
   rotate_left
   ·show Act.put _ (some 6) _ = _
    simp only [Act.put, List.setIfInBounds_toArray, List.set_cons_zero, List.set_cons_succ, i64_w, i32_w]
    rfl
   exact norm_ (by first | (simp only [putAll, Act.put, List.setIfInBounds_toArray, List.set_cons_zero, List.set_cons_succ]; done) | (simp only [putAll, Act.put, List.setIfInBounds_toArray, List.set_cons_zero, List.set_cons_succ]; rfl)) (hJ1_3_4_5 (gb501, gb502) _ ⟨hHeld, (by (with_reducible repeat first | apply bN | apply bD | apply bA); exact BK495.out), (by (with_reducible repeat first | apply bN | apply bD | apply bA); exact BK496.out), (by (with_reducible repeat first | apply bN | apply bD | apply bA); exact BK501.out), (by (with_reducible repeat first | apply bN | apply bD | apply bA); exact BK502.out), GW501.out, GE501.out, NB495_501.out, NB501_495.out, NB496_501.out, NB501_496.out, NB502_501.out, NB501_502.out, GW502.out, GE502.out, NB495_502.out, NB502_495.out, NB496_502.out, NB502_496.out, (by repeat (first | (with_reducible first | exact HB.out | apply below_alloc | apply pw_below_drewN | apply below_drew1 | refine below_set ?_ GE495.out | refine below_set ?_ GE496.out | refine below_set ?_ GE501.out | refine below_set ?_ GE502.out) | exact HB.out))⟩)
 rintro ⟨gb501, gb502⟩ w14 ⟨hS_, h0_, h1_, h2_, h3_, h4_, h5_, h6_, h7_, h8_, h9_, h10_, h11_, h12_, h13_, h14_, h15_, h16_, h17_, h18_⟩
 have n0_ : Aside0 (w14.heap[gb495]? = some (.cells #[.int .i8 a0_0, .int .i8 a0_1] 35 (0, 0))) := ⟨h0_⟩
 have n1_ : Aside0 (w14.heap[gb496]? = some (.cells #[.int .i8 a1_0, .int .i8 a1_1] 35 (0, 0))) := ⟨h1_⟩
 have n2_ : Aside0 (w14.heap[gb501]? = some (.cells #[.int .i8 0, .int .i8 0] 26 (0, 0))) := ⟨h2_⟩
 have n3_ : Aside0 (w14.heap[gb502]? = some (.cells #[.int .i8 0, .int .i8 0] 26 (0, 0))) := ⟨h3_⟩
 have n4_ : Aside0 (w.heap.size ≤ gb501) := ⟨h4_⟩
 have n5_ : Aside0 (w.heap.size ≤ gb501) := ⟨h5_⟩
 have n6_ : Aside0 (gb495 ≠ gb501) := ⟨h6_⟩
 have n7_ : Aside0 (gb501 ≠ gb495) := ⟨h7_⟩
 have n8_ : Aside0 (gb496 ≠ gb501) := ⟨h8_⟩
 have n9_ : Aside0 (gb501 ≠ gb496) := ⟨h9_⟩
 have n10_ : Aside0 (gb502 ≠ gb501) := ⟨h10_⟩
 have n11_ : Aside0 (gb501 ≠ gb502) := ⟨h11_⟩
 have n12_ : Aside0 (w.heap.size ≤ gb502) := ⟨h12_⟩
 have n13_ : Aside0 (w.heap.size ≤ gb502) := ⟨h13_⟩
 have n14_ : Aside0 (gb495 ≠ gb502) := ⟨h14_⟩
 have n15_ : Aside0 (gb502 ≠ gb495) := ⟨h15_⟩
 have n16_ : Aside0 (gb496 ≠ gb502) := ⟨h16_⟩
 have n17_ : Aside0 (gb502 ≠ gb496) := ⟨h17_⟩
 have n18_ : Aside0 (Below w.heap.size w w14) := ⟨h18_⟩
 clear BK495
 clear BK496
 clear HB
 clear h0_ h1_ h2_ h3_ h4_ h5_ h6_ h7_ h8_ h9_ h10_ h11_ h12_ h13_ h14_ h15_ h16_ h17_ h18_
 have BK495 := n0_
 have BK496 := n1_
 have BK501 := n2_
 have BK502 := n3_
 have GW501 := n4_
 have GE501 := n5_
 have NB495_501 := n6_
 have NB501_495 := n7_
 have NB496_501 := n8_
 have NB501_496 := n9_
 have NB502_501 := n10_
 have NB501_502 := n11_
 have GW502 := n12_
 have GE502 := n13_
 have NB495_502 := n14_
 have NB502_495 := n15_
 have NB496_502 := n16_
 have NB502_496 := n17_
 have HB := n18_
 clear n0_ n1_ n2_ n3_ n4_ n5_ n6_ n7_ n8_ n9_ n10_ n11_ n12_ n13_ n14_ n15_ n16_ n17_ n18_
 have hHeld : w14.cell? ⟨gb495, 0, none⟩ = some (.int .i8 a0_0) ∧ w14.cell? ⟨gb495, 1, none⟩ = some (.int .i8 a0_1) ∧ w14.cell? ⟨gb496, 0, none⟩ = some (.int .i8 a1_0) ∧ w14.cell? ⟨gb496, 1, none⟩ = some (.int .i8 a1_1) := hS_
 refine norm_ (a' := ?_) ?_ ?_
 rotate_left
 ·simp only [putAll, Act.put, List.setIfInBounds_toArray, List.set_cons_zero, List.set_cons_succ]
  rfl
 refine one_ (i := 6) (N := none) #[true, true, true, true, true, true, true, false] rfl rfl (one_of HT_.out (by kernel_rfl)) (by decide) (fun K hK => ?_)
 have hs15 : w14.cell? ⟨gb501, 0, none⟩ = some (.int .i8 0) := (blk_cell BK501.out 0).trans rfl
 have hfs15 := blk_frozen BK501.out 0
 have hns15_0 := NB495_501.out
 have hns15_1 := NB496_501.out
 have hns15_3 := NB502_501.out
 have hms15_0 := NB501_495.out
 have hms15_1 := NB501_496.out
 have hms15_3 := NB501_502.out
 have hs16 : w14.cell? ⟨gb501, 1, none⟩ = some (.int .i8 0) := (blk_cell BK501.out 1).trans rfl
 have hfs16 := blk_frozen BK501.out 1
 have hns16_0 := NB495_501.out
 have hns16_1 := NB496_501.out
 have hns16_3 := NB502_501.out
 have hms16_0 := NB501_495.out
 have hms16_1 := NB501_496.out
 have hms16_3 := NB501_502.out
 refine skip_ (w1 := ?_) (by rfl) rfl ?_ ?_
 rotate_left
 ·go_simp
  rfl
 refine hK.out _ _ ⟨((cell_far (p := ⟨gb501, _, none⟩) NB495_501.out _).trans (((cell_far (p := ⟨gb501, _, none⟩) NB495_501.out _).trans (hHeld.1)))), ((cell_far (p := ⟨gb501, _, none⟩) NB495_501.out _).trans (((cell_far (p := ⟨gb501, _, none⟩) NB495_501.out _).trans (hHeld.2.1)))), ((cell_far (p := ⟨gb501, _, none⟩) NB496_501.out _).trans (((cell_far (p := ⟨gb501, _, none⟩) NB496_501.out _).trans (hHeld.2.2.1)))), ((cell_far (p := ⟨gb501, _, none⟩) NB496_501.out _).trans (((cell_far (p := ⟨gb501, _, none⟩) NB496_501.out _).trans (hHeld.2.2.2))))⟩ (fun hHeld => ?_)
 clear hK K
 refine one_ (i := 7) (N := none) #[true, true, true, true, true, true, true, true] rfl rfl (one_of HT_.out (by kernel_rfl)) (by decide) (fun K hK => ?_)
 have hs17 : w14.cell? ⟨gb502, 0, none⟩ = some (.int .i8 0) := (blk_cell BK502.out 0).trans rfl
 have hfs17 := blk_frozen BK502.out 0
 have hns17_0 := NB495_502.out
 have hns17_1 := NB496_502.out
 have hns17_2 := NB501_502.out
 have hms17_0 := NB502_495.out
 have hms17_1 := NB502_496.out
 have hms17_2 := NB502_501.out
 have hs18 : w14.cell? ⟨gb502, 1, none⟩ = some (.int .i8 0) := (blk_cell BK502.out 1).trans rfl
 have hfs18 := blk_frozen BK502.out 1
 have hns18_0 := NB495_502.out
 have hns18_1 := NB496_502.out
 have hns18_2 := NB501_502.out
 have hms18_0 := NB502_495.out
 have hms18_1 := NB502_496.out
 have hms18_2 := NB502_501.out
 refine skip_ (w1 := ?_) (by rfl) rfl ?_ ?_
 rotate_left
 ·go_simp
  rfl
 refine hK.out _ _ ⟨((cell_far (p := ⟨gb502, _, none⟩) NB495_502.out _).trans (((cell_far (p := ⟨gb502, _, none⟩) NB495_502.out _).trans (hHeld.1)))), ((cell_far (p := ⟨gb502, _, none⟩) NB495_502.out _).trans (((cell_far (p := ⟨gb502, _, none⟩) NB495_502.out _).trans (hHeld.2.1)))), ((cell_far (p := ⟨gb502, _, none⟩) NB496_502.out _).trans (((cell_far (p := ⟨gb502, _, none⟩) NB496_502.out _).trans (hHeld.2.2.1)))), ((cell_far (p := ⟨gb502, _, none⟩) NB496_502.out _).trans (((cell_far (p := ⟨gb502, _, none⟩) NB496_502.out _).trans (hHeld.2.2.2))))⟩ (fun hHeld => ?_)
 clear hK K
 refine done_ (done_of HT_.out (by kernel_rfl)) ?_
 have hnb19 := NB495_496.out
 have hnc19 := NB496_495.out
 have hnb20 := NB495_501.out
 have hnc20 := NB501_495.out
 have hnb21 := NB495_502.out
 have hnc21 := NB502_495.out
 have hcz22_0 : w14.cell? ⟨gb495, 0, none⟩ = some (.int .i8 a0_0) := (blk_cell BK495.out 0).trans rfl
 have hcz22_1 : w14.cell? ⟨gb495, 1, none⟩ = some (.int .i8 a0_1) := (blk_cell BK495.out 1).trans rfl
 have hfz22_0 := blk_frozen BK495.out 0
 have hfz22_1 := blk_frozen BK495.out 1
 have hnb23 := NB496_501.out
 have hnc23 := NB501_496.out
 have hnb24 := NB496_502.out
 have hnc24 := NB502_496.out
 have hcz25_0 : w14.cell? ⟨gb496, 0, none⟩ = some (.int .i8 a1_0) := (blk_cell BK496.out 0).trans rfl
 have hcz25_1 : w14.cell? ⟨gb496, 1, none⟩ = some (.int .i8 a1_1) := (blk_cell BK496.out 1).trans rfl
 have hfz25_0 := blk_frozen BK496.out 0
 have hfz25_1 := blk_frozen BK496.out 1
 go_upto_region 3 with (first | ((with_reducible refine gate_dst (N := 19) rfl ?_); (try (refine gate_guard (by rfl) ?_; dsimp only)); refine Kd.R_lit k26 _ 26 ?hg (N := 19) ?hd (xs := ([(⟨a0_0, a0_1⟩ : S26), (⟨a1_0, a1_1⟩ : S26)] : List (S26))) (inner := [.int .i8 a0_0, .int .i8 a0_1, .int .i8 a1_0, .int .i8 a1_1]) (ok := fun _ => True) (okp := fun _ => True) ?hr ?hp (fun _ hk => hk) trivial (Below.refl _ _) (Nat.le_refl _) (by simp) ?_; (case hd => rfl); (case hg => rfl); (case hr => first | (go_simp; done) | (go_simp; rfl)); (case hp => exact (Reps.c2 (show Kd.M k26 _ _ _ (⟨a0_0, a0_1⟩ : S26) [.int .i8 a0_0, .int .i8 a0_1] from (k26_mkM _ _ _ (⟨a0_0, a0_1⟩ : S26) )) (Reps.c2 (show Kd.M k26 _ _ _ (⟨a1_0, a1_1⟩ : S26) [.int .i8 a1_0, .int .i8 a1_1] from (k26_mkM _ _ _ (⟨a1_0, a1_1⟩ : S26) )) (Reps.none _ _)))); intro v504 w26 ho27 hb hg_ hnew_; clear hg_ hnew_; (first | rw [← Ny503.out] at ho27 | (simp only [Int.reduceToNat] at ho27; rw [← Ny503.out] at ho27)); have n0_ := Aside0.mk (Kd.R_lower (Kd.R_newB (Kd.R_newB ho27 (g := gb501) (o := .cells #[.int .i8 t497, .int .i8 t498] 26 (0, 0)) (by (with_reducible repeat first | apply bN | apply bD | apply bA); refine blk_far ?_ NB501_502.out _; (with_reducible repeat first | apply bN | apply bD | apply bA); refine blk_far ?_ NB501_502.out _; (with_reducible repeat first | apply bN | apply bD | apply bA); refine blk_put (cs := #[.int .i8 t497, .int .i8 0]) ?_ 1 _ rfl; (with_reducible repeat first | apply bN | apply bD | apply bA); refine blk_put (cs := #[.int .i8 0, .int .i8 0]) ?_ 0 _ rfl; (with_reducible repeat first | apply bN | apply bD | apply bA); exact BK501.out)) (g := gb502) (o := .cells #[.int .i8 t499, .int .i8 t500] 26 (0, 0)) (by (with_reducible repeat first | apply bN | apply bD | apply bA); refine blk_put (cs := #[.int .i8 t499, .int .i8 0]) ?_ 1 _ rfl; (with_reducible repeat first | apply bN | apply bD | apply bA); refine blk_put (cs := #[.int .i8 0, .int .i8 0]) ?_ 0 _ rfl; (with_reducible repeat first | apply bN | apply bD | apply bA); refine blk_far ?_ NB502_501.out _; (with_reducible repeat first | apply bN | apply bD | apply bA); refine blk_far ?_ NB502_501.out _; (with_reducible repeat first | apply bN | apply bD | apply bA); exact BK502.out)) (below_size (by repeat (first | (with_reducible first | exact HB.out | apply below_alloc | apply pw_below_drewN | apply below_drew1 | refine below_set ?_ GE495.out | refine below_set ?_ GE496.out | refine below_set ?_ GE501.out | refine below_set ?_ GE502.out) | exact HB.out)))); have n1_ := Aside0.mk (blk_below (g := gb495) (o := .cells #[.int .i8 a0_0, .int .i8 a0_1] 35 (0, 0)) (by (with_reducible repeat first | apply bN | apply bD | apply bA); refine blk_far ?_ NB495_502.out _; (with_reducible repeat first | apply bN | apply bD | apply bA); refine blk_far ?_ NB495_502.out _; (with_reducible repeat first | apply bN | apply bD | apply bA); refine blk_far ?_ NB495_501.out _; (with_reducible repeat first | apply bN | apply bD | apply bA); refine blk_far ?_ NB495_501.out _; (with_reducible repeat first | apply bN | apply bD | apply bA); exact BK495.out) hb); have n2_ := Aside0.mk (blk_below (g := gb496) (o := .cells #[.int .i8 a1_0, .int .i8 a1_1] 35 (0, 0)) (by (with_reducible repeat first | apply bN | apply bD | apply bA); refine blk_far ?_ NB496_502.out _; (with_reducible repeat first | apply bN | apply bD | apply bA); refine blk_far ?_ NB496_502.out _; (with_reducible repeat first | apply bN | apply bD | apply bA); refine blk_far ?_ NB496_501.out _; (with_reducible repeat first | apply bN | apply bD | apply bA); refine blk_far ?_ NB496_501.out _; (with_reducible repeat first | apply bN | apply bD | apply bA); exact BK496.out) hb); have n3_ := Aside0.mk (blk_below (g := gb501) (o := .cells #[.int .i8 t497, .int .i8 t498] 26 (0, 0)) (by (with_reducible repeat first | apply bN | apply bD | apply bA); refine blk_far ?_ NB501_502.out _; (with_reducible repeat first | apply bN | apply bD | apply bA); refine blk_far ?_ NB501_502.out _; (with_reducible repeat first | apply bN | apply bD | apply bA); refine blk_put (cs := #[.int .i8 t497, .int .i8 0]) ?_ 1 _ rfl; (with_reducible repeat first | apply bN | apply bD | apply bA); refine blk_put (cs := #[.int .i8 0, .int .i8 0]) ?_ 0 _ rfl; (with_reducible repeat first | apply bN | apply bD | apply bA); exact BK501.out) hb); have n4_ := Aside0.mk (blk_below (g := gb502) (o := .cells #[.int .i8 t499, .int .i8 t500] 26 (0, 0)) (by (with_reducible repeat first | apply bN | apply bD | apply bA); refine blk_put (cs := #[.int .i8 t499, .int .i8 0]) ?_ 1 _ rfl; (with_reducible repeat first | apply bN | apply bD | apply bA); refine blk_put (cs := #[.int .i8 0, .int .i8 0]) ?_ 0 _ rfl; (with_reducible repeat first | apply bN | apply bD | apply bA); refine blk_far ?_ NB502_501.out _; (with_reducible repeat first | apply bN | apply bD | apply bA); refine blk_far ?_ NB502_501.out _; (with_reducible repeat first | apply bN | apply bD | apply bA); exact BK502.out) hb); have n5_ := Aside0.mk (below_step (by repeat (first | (with_reducible first | exact HB.out | apply below_alloc | apply pw_below_drewN | apply below_drew1 | refine below_set ?_ GE495.out | refine below_set ?_ GE496.out | refine below_set ?_ GE501.out | refine below_set ?_ GE502.out) | exact HB.out)) hb); clear BK495; clear BK496; clear BK501; clear BK502; clear HB; have HO505 := n0_; have BK495 := n1_; have BK496 := n2_; have BK501 := n3_; have BK502 := n4_; have HB := n5_; clear n0_ n1_ n2_ n3_ n4_ n5_; clear hb ho27; obtain ⟨Ao28, co28, eo28⟩ := Kd.R_slice HO505.out; subst eo28) | ((with_reducible refine gate_callee (f := 20) rfl ?_); refine goesL_ (some 20) rfl rfl Tryd.func20 (by kernel_rfl) rfl #[.slice Ao28 y503.length co28] rfl (by (try simp only [List.map_toArray, List.map_cons, List.map_nil]); first | done | rfl | (simp only [List.length_drop, List.length_take]; rfl)) ?_; (with_reducible refine (strength_Combine.calls k _ _ y503 t506 t507 _ ?side1 ?side2 A5.out).mono ?_); (case side1 => repeat (first | exact (Kd.R_reads' HO505.out).2.2 | (with_reducible refine Kd.C_alloc ?_ _) | (with_reducible refine Kd.C_drewN ?_ _) | (with_reducible refine Kd.C_drew ?_))); (case side2 => exact (Kd.R_reads' HO505.out).2.1); rintro e w29 ⟨rfl, hb⟩; refine ⟨_, rfl, ?_⟩; have n0_ := Aside0.mk (Kd.R_below (by (with_reducible repeat (first | apply Kd.R_alloc | apply Kd.R_drewN | apply Kd.R_drew)); exact HO505.out) hb); have n1_ := Aside0.mk (blk_below (g := gb495) (o := .cells #[.int .i8 a0_0, .int .i8 a0_1] 35 (0, 0)) (by (with_reducible repeat first | apply bN | apply bD | apply bA); exact BK495.out) hb); have n2_ := Aside0.mk (blk_below (g := gb496) (o := .cells #[.int .i8 a1_0, .int .i8 a1_1] 35 (0, 0)) (by (with_reducible repeat first | apply bN | apply bD | apply bA); exact BK496.out) hb); have n3_ := Aside0.mk (blk_below (g := gb501) (o := .cells #[.int .i8 t497, .int .i8 t498] 26 (0, 0)) (by (with_reducible repeat first | apply bN | apply bD | apply bA); exact BK501.out) hb); have n4_ := Aside0.mk (blk_below (g := gb502) (o := .cells #[.int .i8 t499, .int .i8 t500] 26 (0, 0)) (by (with_reducible repeat first | apply bN | apply bD | apply bA); exact BK502.out) hb); have n5_ := Aside0.mk (below_step (by repeat (first | (with_reducible first | exact HB.out | apply below_alloc | apply pw_below_drewN | apply below_drew1 | refine below_set ?_ GE495.out | refine below_set ?_ GE496.out | refine below_set ?_ GE501.out | refine below_set ?_ GE502.out) | exact HB.out)) hb); clear HO505; clear BK495; clear BK496; clear BK501; clear BK502; clear HB; have HO505 := n0_; have BK495 := n1_; have BK496 := n2_; have BK501 := n3_; have BK502 := n4_; have HB := n5_; clear n0_ n1_ n2_ n3_ n4_ n5_; (try clear hb); (try clear hb2); (try clear hk); (try clear hi)) | ((with_reducible refine gate_dst (N := 7) rfl ?_); (try (refine gate_guard (by rfl) ?_; dsimp only)); refine box_event ?hg (N := 7) ?hd (cs := #[.int .i8 0, .int .i8 0]) (t := 26) ?hr ?_; (case hd => rfl); (case hg => rfl); (case hr => first | (go_simp; done) | (go_simp; rfl)); intro gb508 hg w30 hbox hb; have n0_ := Aside0.mk (Kd.R_below (Kd.R_elderB (by (with_reducible repeat (first | apply Kd.R_alloc | apply Kd.R_drewN | apply Kd.R_drew)); exact HO505.out) gb508 (Nat.le_of_eq hg.symm)) hb); have n1_ := Aside0.mk (blk_below (g := gb495) (o := .cells #[.int .i8 a0_0, .int .i8 a0_1] 35 (0, 0)) (by (with_reducible repeat first | apply bN | apply bD | apply bA); exact BK495.out) hb); have n2_ := Aside0.mk (blk_below (g := gb496) (o := .cells #[.int .i8 a1_0, .int .i8 a1_1] 35 (0, 0)) (by (with_reducible repeat first | apply bN | apply bD | apply bA); exact BK496.out) hb); have n3_ := Aside0.mk (blk_below (g := gb501) (o := .cells #[.int .i8 t497, .int .i8 t498] 26 (0, 0)) (by (with_reducible repeat first | apply bN | apply bD | apply bA); exact BK501.out) hb); have n4_ := Aside0.mk (blk_below (g := gb502) (o := .cells #[.int .i8 t499, .int .i8 t500] 26 (0, 0)) (by (with_reducible repeat first | apply bN | apply bD | apply bA); exact BK502.out) hb); have n5_ := Aside0.mk (below_step (by repeat (first | (with_reducible first | exact HB.out | apply below_alloc | apply pw_below_drewN | apply below_drew1 | refine below_set ?_ GE495.out | refine below_set ?_ GE496.out | refine below_set ?_ GE501.out | refine below_set ?_ GE502.out) | exact HB.out)) hb); have n6_ := Aside0.mk (hbox); have n7_ := Aside0.mk ((by rw [hg]; exact (below_size (by repeat (first | (with_reducible first | exact HB.out | apply below_alloc | apply pw_below_drewN | apply below_drew1 | refine below_set ?_ GE495.out | refine below_set ?_ GE496.out | refine below_set ?_ GE501.out | refine below_set ?_ GE502.out) | exact HB.out))) : w.heap.size ≤ gb508)); have n8_ := Aside0.mk ((by rw [hg]; exact (below_size (by repeat (first | (with_reducible first | exact HB.out | apply below_alloc | apply pw_below_drewN | apply below_drew1 | refine below_set ?_ GE495.out | refine below_set ?_ GE496.out | refine below_set ?_ GE501.out | refine below_set ?_ GE502.out) | exact HB.out))) : w.heap.size ≤ gb508)); have n9_ := Aside0.mk ((by rw [hg]; exact Nat.ne_of_lt (blk_lt (g := gb495) (o := .cells #[.int .i8 a0_0, .int .i8 a0_1] 35 (0, 0)) (by (with_reducible repeat first | apply bN | apply bD | apply bA); exact BK495.out)) : gb495 ≠ gb508)); have n10_ := Aside0.mk ((by rw [hg]; exact Nat.ne_of_gt (blk_lt (g := gb495) (o := .cells #[.int .i8 a0_0, .int .i8 a0_1] 35 (0, 0)) (by (with_reducible repeat first | apply bN | apply bD | apply bA); exact BK495.out)) : gb508 ≠ gb495)); have n11_ := Aside0.mk ((by rw [hg]; exact Nat.ne_of_lt (blk_lt (g := gb496) (o := .cells #[.int .i8 a1_0, .int .i8 a1_1] 35 (0, 0)) (by (with_reducible repeat first | apply bN | apply bD | apply bA); exact BK496.out)) : gb496 ≠ gb508)); have n12_ := Aside0.mk ((by rw [hg]; exact Nat.ne_of_gt (blk_lt (g := gb496) (o := .cells #[.int .i8 a1_0, .int .i8 a1_1] 35 (0, 0)) (by (with_reducible repeat first | apply bN | apply bD | apply bA); exact BK496.out)) : gb508 ≠ gb496)); have n13_ := Aside0.mk ((by rw [hg]; exact Nat.ne_of_lt (blk_lt (g := gb501) (o := .cells #[.int .i8 t497, .int .i8 t498] 26 (0, 0)) (by (with_reducible repeat first | apply bN | apply bD | apply bA); exact BK501.out)) : gb501 ≠ gb508)); have n14_ := Aside0.mk ((by rw [hg]; exact Nat.ne_of_gt (blk_lt (g := gb501) (o := .cells #[.int .i8 t497, .int .i8 t498] 26 (0, 0)) (by (with_reducible repeat first | apply bN | apply bD | apply bA); exact BK501.out)) : gb508 ≠ gb501)); have n15_ := Aside0.mk ((by rw [hg]; exact Nat.ne_of_lt (blk_lt (g := gb502) (o := .cells #[.int .i8 t499, .int .i8 t500] 26 (0, 0)) (by (with_reducible repeat first | apply bN | apply bD | apply bA); exact BK502.out)) : gb502 ≠ gb508)); have n16_ := Aside0.mk ((by rw [hg]; exact Nat.ne_of_gt (blk_lt (g := gb502) (o := .cells #[.int .i8 t499, .int .i8 t500] 26 (0, 0)) (by (with_reducible repeat first | apply bN | apply bD | apply bA); exact BK502.out)) : gb508 ≠ gb502)); clear HO505; clear BK495; clear BK496; clear BK501; clear BK502; clear HB; have HO505 := n0_; have BK495 := n1_; have BK496 := n2_; have BK501 := n3_; have BK502 := n4_; have HB := n5_; have BK508 := n6_; have GW508 := n7_; have GE508 := n8_; have NB495_508 := n9_; have NB508_495 := n10_; have NB496_508 := n11_; have NB508_496 := n12_; have NB501_508 := n13_; have NB508_501 := n14_; have NB502_508 := n15_; have NB508_502 := n16_; clear n0_ n1_ n2_ n3_ n4_ n5_ n6_ n7_ n8_ n9_ n10_ n11_ n12_ n13_ n14_ n15_ n16_; clear hb hbox hg; have hnb31 := NB508_495.out; have hnc31 := NB495_508.out; have hnb32 := NB508_496.out; have hnc32 := NB496_508.out; have hnb33 := NB508_501.out; have hnc33 := NB501_508.out; have hnb34 := NB508_502.out; have hnc34 := NB502_508.out; have hcz35_0 : w30.cell? ⟨gb508, 0, none⟩ = some (.int .i8 0) := (blk_cell BK508.out 0).trans rfl; have hcz35_1 : w30.cell? ⟨gb508, 1, none⟩ = some (.int .i8 0) := (blk_cell BK508.out 1).trans rfl; have hfz35_0 := blk_frozen BK508.out 0; have hfz35_1 := blk_frozen BK508.out 1))
 (try simp only [Act.put, List.setIfInBounds_toArray, List.set_cons_zero, List.set_cons_succ])
 go_cut [53] (fun v53 wc => ∃ (kq : Nat) (x53_5 : Bool), v53 = .bool x53_5 ∧ Aside0 (netlablaw02_StrengthElements.j0 kq x53_5 t497 t498 t499 t500 t506 t507 = some r) ∧ Aside0 (kq ≤ k) ∧ Aside0 (wc.heap[gb495]? = some (.cells #[.int .i8 a0_0, .int .i8 a0_1] 35 (0, 0))) ∧ Aside0 (wc.heap[gb496]? = some (.cells #[.int .i8 a1_0, .int .i8 a1_1] 35 (0, 0))) ∧ Aside0 (wc.heap[gb501]? = some (.cells #[.int .i8 t497, .int .i8 t498] 26 (0, 0))) ∧ Aside0 (wc.heap[gb502]? = some (.cells #[.int .i8 t499, .int .i8 t500] 26 (0, 0))) ∧ Aside0 (wc.heap[gb508]? = some (.cells #[.int .i8 t506, .int .i8 t507] 26 (0, 0))) ∧ Aside0 (Below w.heap.size w wc))
 case first =>
  have H := HC6.out
  clear HC6
  replace H := Option.bind_eq_some_iff.mp H
  obtain ⟨t509, A360, H⟩ := H
  replace H : (if t509 = true then ((strength_Valid.f t499 t500).bind fun t510 => (if t510 = true then ((strength_Valid.f t506 t507).bind fun t511 => (if t511 = true then (if t497 < (-7) then (netlablaw02_StrengthElements.j0 k true t497 t498 t499 t500 t506 t507) else (if t498 > 7 then (netlablaw02_StrengthElements.j0 k true t497 t498 t499 t500 t506 t507) else (if t499 < (-7) then (netlablaw02_StrengthElements.j0 k true t497 t498 t499 t500 t506 t507) else (netlablaw02_StrengthElements.j0 k (decide (t500 > 7)) t497 t498 t499 t500 t506 t507)))) else (netlablaw02_StrengthElements.j0 k true t497 t498 t499 t500 t506 t507))) else (netlablaw02_StrengthElements.j0 k true t497 t498 t499 t500 t506 t507))) else (netlablaw02_StrengthElements.j0 k true t497 t498 t499 t500 t506 t507)) = some r := H
  have A36 := Aside0.mk A360
  clear A360
  by_cases c37 : t509 = true
  ·subst c37
   have H1 : ((strength_Valid.f t499 t500).bind fun t510 => (if t510 = true then ((strength_Valid.f t506 t507).bind fun t511 => (if t511 = true then (if t497 < (-7) then (netlablaw02_StrengthElements.j0 k true t497 t498 t499 t500 t506 t507) else (if t498 > 7 then (netlablaw02_StrengthElements.j0 k true t497 t498 t499 t500 t506 t507) else (if t499 < (-7) then (netlablaw02_StrengthElements.j0 k true t497 t498 t499 t500 t506 t507) else (netlablaw02_StrengthElements.j0 k (decide (t500 > 7)) t497 t498 t499 t500 t506 t507)))) else (netlablaw02_StrengthElements.j0 k true t497 t498 t499 t500 t506 t507))) else (netlablaw02_StrengthElements.j0 k true t497 t498 t499 t500 t506 t507))) = some r := by rw [if_pos rfl] at H; exact H
   clear H
   have H := H1
   clear H1
   replace H := Option.bind_eq_some_iff.mp H
   obtain ⟨t510, A380, H⟩ := H
   replace H : (if t510 = true then ((strength_Valid.f t506 t507).bind fun t511 => (if t511 = true then (if t497 < (-7) then (netlablaw02_StrengthElements.j0 k true t497 t498 t499 t500 t506 t507) else (if t498 > 7 then (netlablaw02_StrengthElements.j0 k true t497 t498 t499 t500 t506 t507) else (if t499 < (-7) then (netlablaw02_StrengthElements.j0 k true t497 t498 t499 t500 t506 t507) else (netlablaw02_StrengthElements.j0 k (decide (t500 > 7)) t497 t498 t499 t500 t506 t507)))) else (netlablaw02_StrengthElements.j0 k true t497 t498 t499 t500 t506 t507))) else (netlablaw02_StrengthElements.j0 k true t497 t498 t499 t500 t506 t507)) = some r := H
   have A38 := Aside0.mk A380
   clear A380
   by_cases c39 : t510 = true
   ·subst c39
    have H1 : ((strength_Valid.f t506 t507).bind fun t511 => (if t511 = true then (if t497 < (-7) then (netlablaw02_StrengthElements.j0 k true t497 t498 t499 t500 t506 t507) else (if t498 > 7 then (netlablaw02_StrengthElements.j0 k true t497 t498 t499 t500 t506 t507) else (if t499 < (-7) then (netlablaw02_StrengthElements.j0 k true t497 t498 t499 t500 t506 t507) else (netlablaw02_StrengthElements.j0 k (decide (t500 > 7)) t497 t498 t499 t500 t506 t507)))) else (netlablaw02_StrengthElements.j0 k true t497 t498 t499 t500 t506 t507))) = some r := by rw [if_pos rfl] at H; exact H
    clear H
    have H := H1
    clear H1
    replace H := Option.bind_eq_some_iff.mp H
    obtain ⟨t511, A400, H⟩ := H
    replace H : (if t511 = true then (if t497 < (-7) then (netlablaw02_StrengthElements.j0 k true t497 t498 t499 t500 t506 t507) else (if t498 > 7 then (netlablaw02_StrengthElements.j0 k true t497 t498 t499 t500 t506 t507) else (if t499 < (-7) then (netlablaw02_StrengthElements.j0 k true t497 t498 t499 t500 t506 t507) else (netlablaw02_StrengthElements.j0 k (decide (t500 > 7)) t497 t498 t499 t500 t506 t507)))) else (netlablaw02_StrengthElements.j0 k true t497 t498 t499 t500 t506 t507)) = some r := H
    have A40 := Aside0.mk A400
    clear A400
    by_cases c41 : t511 = true
    ·subst c41
     have H1 : (if t497 < (-7) then (netlablaw02_StrengthElements.j0 k true t497 t498 t499 t500 t506 t507) else (if t498 > 7 then (netlablaw02_StrengthElements.j0 k true t497 t498 t499 t500 t506 t507) else (if t499 < (-7) then (netlablaw02_StrengthElements.j0 k true t497 t498 t499 t500 t506 t507) else (netlablaw02_StrengthElements.j0 k (decide (t500 > 7)) t497 t498 t499 t500 t506 t507)))) = some r := by rw [if_pos rfl] at H; exact H
     clear H
     have H := H1
     clear H1
     by_cases c42 : t497 < (-7)
     ·rw [if_pos c42] at H
      have c42b0 : decide (t497 < (-7)) = true := decide_eq_true c42
      clear c42
      (first | rw [c42b0] | (simp only [i64_w, i32_w]; rw [c42b0]) | skip)
      have H' := Aside0.mk H
      clear H
      have hnb43 := NB501_495.out
      have hnc43 := NB495_501.out
      have hnb44 := NB501_496.out
      have hnc44 := NB496_501.out
      have hnb45 := NB501_502.out
      have hnc45 := NB502_501.out
      have hnb46 := NB501_508.out
      have hnc46 := NB508_501.out
      have hcz47_0 : w30.cell? ⟨gb501, 0, none⟩ = some (.int .i8 t497) := (blk_cell BK501.out 0).trans rfl
      have hcz47_1 : w30.cell? ⟨gb501, 1, none⟩ = some (.int .i8 t498) := (blk_cell BK501.out 1).trans rfl
      have hfz47_0 := blk_frozen BK501.out 0
      have hfz47_1 := blk_frozen BK501.out 1
      go_wp2_with (first | ((with_reducible refine gate_callee (f := 27) rfl ?_); refine goesL_ (some 22) rfl rfl Tryd.func27 (by kernel_rfl) rfl #[.agg #[.int .i8 t497, .int .i8 t498]] rfl (by (try simp only [List.map_toArray, List.map_cons, List.map_nil]); first | done | rfl | (simp only [List.length_drop, List.length_take]; rfl)) ?_; (with_reducible refine (strength_Valid.calls t497 t498 true _ A36.out).mono ?_); rintro e w48 ⟨rfl, hb⟩; refine ⟨_, rfl, ?_⟩; have n0_ := Aside0.mk (Kd.R_below (by (with_reducible repeat (first | apply Kd.R_alloc | apply Kd.R_drewN | apply Kd.R_drew)); exact (Kd.R_mono (Kd.R_far (p := ⟨gb508, 1, none⟩) (Kd.R_far (p := ⟨gb508, 0, none⟩) (Kd.R_mono HO505.out (fun k_ hk => (⟨hk, hk.2⟩ : _ ∧ k_ ≠ gb508))) (fun _ hk => hk.2) (.int .i8 t506)) (fun _ hk => hk.2) (.int .i8 t507)) (fun _ h_ => h_.1))) hb); have n1_ := Aside0.mk (blk_below (g := gb495) (o := .cells #[.int .i8 a0_0, .int .i8 a0_1] 35 (0, 0)) (by (with_reducible repeat first | apply bN | apply bD | apply bA); refine blk_far ?_ NB495_508.out _; (with_reducible repeat first | apply bN | apply bD | apply bA); refine blk_far ?_ NB495_508.out _; (with_reducible repeat first | apply bN | apply bD | apply bA); exact BK495.out) hb); have n2_ := Aside0.mk (blk_below (g := gb496) (o := .cells #[.int .i8 a1_0, .int .i8 a1_1] 35 (0, 0)) (by (with_reducible repeat first | apply bN | apply bD | apply bA); refine blk_far ?_ NB496_508.out _; (with_reducible repeat first | apply bN | apply bD | apply bA); refine blk_far ?_ NB496_508.out _; (with_reducible repeat first | apply bN | apply bD | apply bA); exact BK496.out) hb); have n3_ := Aside0.mk (blk_below (g := gb501) (o := .cells #[.int .i8 t497, .int .i8 t498] 26 (0, 0)) (by (with_reducible repeat first | apply bN | apply bD | apply bA); refine blk_far ?_ NB501_508.out _; (with_reducible repeat first | apply bN | apply bD | apply bA); refine blk_far ?_ NB501_508.out _; (with_reducible repeat first | apply bN | apply bD | apply bA); exact BK501.out) hb); have n4_ := Aside0.mk (blk_below (g := gb502) (o := .cells #[.int .i8 t499, .int .i8 t500] 26 (0, 0)) (by (with_reducible repeat first | apply bN | apply bD | apply bA); refine blk_far ?_ NB502_508.out _; (with_reducible repeat first | apply bN | apply bD | apply bA); refine blk_far ?_ NB502_508.out _; (with_reducible repeat first | apply bN | apply bD | apply bA); exact BK502.out) hb); have n5_ := Aside0.mk (blk_below (g := gb508) (o := .cells #[.int .i8 t506, .int .i8 t507] 26 (0, 0)) (by (with_reducible repeat first | apply bN | apply bD | apply bA); refine blk_put (cs := #[.int .i8 t506, .int .i8 0]) ?_ 1 _ rfl; (with_reducible repeat first | apply bN | apply bD | apply bA); refine blk_put (cs := #[.int .i8 0, .int .i8 0]) ?_ 0 _ rfl; (with_reducible repeat first | apply bN | apply bD | apply bA); exact BK508.out) hb); have n6_ := Aside0.mk (below_step (by repeat (first | (with_reducible first | exact HB.out | apply below_alloc | apply pw_below_drewN | apply below_drew1 | refine below_set ?_ GE495.out | refine below_set ?_ GE496.out | refine below_set ?_ GE501.out | refine below_set ?_ GE502.out | refine below_set ?_ GE508.out) | exact HB.out)) hb); clear HO505; clear BK495; clear BK496; clear BK501; clear BK502; clear BK508; clear HB; have HO505 := n0_; have BK495 := n1_; have BK496 := n2_; have BK501 := n3_; have BK502 := n4_; have BK508 := n5_; have HB := n6_; clear n0_ n1_ n2_ n3_ n4_ n5_ n6_; (try clear hb); (try clear hb2); (try clear hk); (try clear hi); have hnb49 := NB502_495.out; have hnc49 := NB495_502.out; have hnb50 := NB502_496.out; have hnc50 := NB496_502.out; have hnb51 := NB502_508.out; have hnc51 := NB508_502.out; have hcz52_0 : w48.cell? ⟨gb502, 0, none⟩ = some (.int .i8 t499) := (blk_cell BK502.out 0).trans rfl; have hcz52_1 : w48.cell? ⟨gb502, 1, none⟩ = some (.int .i8 t500) := (blk_cell BK502.out 1).trans rfl; have hfz52_0 := blk_frozen BK502.out 0; have hfz52_1 := blk_frozen BK502.out 1) | (go_at_call 27; (with_reducible refine (strength_Valid.calls t499 t500 true _ A38.out).mono ?_); rintro e w53 ⟨rfl, hb⟩; have n0_ := Aside0.mk (Kd.R_below (by (with_reducible repeat (first | apply Kd.R_alloc | apply Kd.R_drewN | apply Kd.R_drew)); exact HO505.out) hb); have n1_ := Aside0.mk (blk_below (g := gb495) (o := .cells #[.int .i8 a0_0, .int .i8 a0_1] 35 (0, 0)) (by (with_reducible repeat first | apply bN | apply bD | apply bA); exact BK495.out) hb); have n2_ := Aside0.mk (blk_below (g := gb496) (o := .cells #[.int .i8 a1_0, .int .i8 a1_1] 35 (0, 0)) (by (with_reducible repeat first | apply bN | apply bD | apply bA); exact BK496.out) hb); have n3_ := Aside0.mk (blk_below (g := gb501) (o := .cells #[.int .i8 t497, .int .i8 t498] 26 (0, 0)) (by (with_reducible repeat first | apply bN | apply bD | apply bA); exact BK501.out) hb); have n4_ := Aside0.mk (blk_below (g := gb502) (o := .cells #[.int .i8 t499, .int .i8 t500] 26 (0, 0)) (by (with_reducible repeat first | apply bN | apply bD | apply bA); exact BK502.out) hb); have n5_ := Aside0.mk (blk_below (g := gb508) (o := .cells #[.int .i8 t506, .int .i8 t507] 26 (0, 0)) (by (with_reducible repeat first | apply bN | apply bD | apply bA); exact BK508.out) hb); have n6_ := Aside0.mk (below_step (by repeat (first | (with_reducible first | exact HB.out | apply below_alloc | apply pw_below_drewN | apply below_drew1 | refine below_set ?_ GE495.out | refine below_set ?_ GE496.out | refine below_set ?_ GE501.out | refine below_set ?_ GE502.out | refine below_set ?_ GE508.out) | exact HB.out)) hb); clear HO505; clear BK495; clear BK496; clear BK501; clear BK502; clear BK508; clear HB; have HO505 := n0_; have BK495 := n1_; have BK496 := n2_; have BK501 := n3_; have BK502 := n4_; have BK508 := n5_; have HB := n6_; clear n0_ n1_ n2_ n3_ n4_ n5_ n6_; (try clear hb); (try clear hb2); (try clear hk); (try clear hi); have hnb54 := NB508_495.out; have hnc54 := NB495_508.out; have hnb55 := NB508_496.out; have hnc55 := NB496_508.out; have hcz56_0 : w53.cell? ⟨gb508, 0, none⟩ = some (.int .i8 t506) := (blk_cell BK508.out 0).trans rfl; have hcz56_1 : w53.cell? ⟨gb508, 1, none⟩ = some (.int .i8 t507) := (blk_cell BK508.out 1).trans rfl; have hfz56_0 := blk_frozen BK508.out 0; have hfz56_1 := blk_frozen BK508.out 1) | (go_at_call 27; (with_reducible refine (strength_Valid.calls t506 t507 true _ A40.out).mono ?_); rintro e w57 ⟨rfl, hb⟩; have n0_ := Aside0.mk (Kd.R_below (by (with_reducible repeat (first | apply Kd.R_alloc | apply Kd.R_drewN | apply Kd.R_drew)); exact HO505.out) hb); have n1_ := Aside0.mk (blk_below (g := gb495) (o := .cells #[.int .i8 a0_0, .int .i8 a0_1] 35 (0, 0)) (by (with_reducible repeat first | apply bN | apply bD | apply bA); exact BK495.out) hb); have n2_ := Aside0.mk (blk_below (g := gb496) (o := .cells #[.int .i8 a1_0, .int .i8 a1_1] 35 (0, 0)) (by (with_reducible repeat first | apply bN | apply bD | apply bA); exact BK496.out) hb); have n3_ := Aside0.mk (blk_below (g := gb501) (o := .cells #[.int .i8 t497, .int .i8 t498] 26 (0, 0)) (by (with_reducible repeat first | apply bN | apply bD | apply bA); exact BK501.out) hb); have n4_ := Aside0.mk (blk_below (g := gb502) (o := .cells #[.int .i8 t499, .int .i8 t500] 26 (0, 0)) (by (with_reducible repeat first | apply bN | apply bD | apply bA); exact BK502.out) hb); have n5_ := Aside0.mk (blk_below (g := gb508) (o := .cells #[.int .i8 t506, .int .i8 t507] 26 (0, 0)) (by (with_reducible repeat first | apply bN | apply bD | apply bA); exact BK508.out) hb); have n6_ := Aside0.mk (below_step (by repeat (first | (with_reducible first | exact HB.out | apply below_alloc | apply pw_below_drewN | apply below_drew1 | refine below_set ?_ GE495.out | refine below_set ?_ GE496.out | refine below_set ?_ GE501.out | refine below_set ?_ GE502.out | refine below_set ?_ GE508.out) | exact HB.out)) hb); clear HO505; clear BK495; clear BK496; clear BK501; clear BK502; clear BK508; clear HB; have HO505 := n0_; have BK495 := n1_; have BK496 := n2_; have BK501 := n3_; have BK502 := n4_; have BK508 := n5_; have HB := n6_; clear n0_ n1_ n2_ n3_ n4_ n5_ n6_; (try clear hb); (try clear hb2); (try clear hk); (try clear hi); have hcz58_0 : w57.cell? ⟨gb501, 0, none⟩ = some (.int .i8 t497) := (blk_cell BK501.out 0).trans rfl; have hcz58_1 : w57.cell? ⟨gb501, 1, none⟩ = some (.int .i8 t498) := (blk_cell BK501.out 1).trans rfl; have hfz58_0 := blk_frozen BK501.out 0; have hfz58_1 := blk_frozen BK501.out 1))
      go_meet
      case rel => exact ⟨_, (true), (by first | rfl | (simp; done) | (simp [*]; done)), H', ⟨by first | omega | exact Nat.le_refl _⟩, ⟨by (with_reducible repeat first | apply bN | apply bD | apply bA); exact BK495.out⟩, ⟨by (with_reducible repeat first | apply bN | apply bD | apply bA); exact BK496.out⟩, ⟨by (with_reducible repeat first | apply bN | apply bD | apply bA); exact BK501.out⟩, ⟨by (with_reducible repeat first | apply bN | apply bD | apply bA); exact BK502.out⟩, ⟨by (with_reducible repeat first | apply bN | apply bD | apply bA); exact BK508.out⟩, ⟨by repeat (first | (with_reducible first | exact HB.out | apply below_alloc | apply pw_below_drewN | apply below_drew1 | refine below_set ?_ GE495.out | refine below_set ?_ GE496.out | refine below_set ?_ GE501.out | refine below_set ?_ GE502.out | refine below_set ?_ GE508.out) | exact HB.out)⟩⟩
     ·rw [if_neg c42] at H
      have c42b0 : decide (t497 < (-7)) = false := decide_eq_false c42
      clear c42
      (first | rw [c42b0] | (simp only [i64_w, i32_w]; rw [c42b0]) | skip)
      by_cases c59 : t498 > 7
      ·rw [if_pos c59] at H
       have c59b0 : decide (7 < t498) = true := decide_eq_true c59
       clear c59
       have H' := Aside0.mk H
       clear H
       have hnb60 := NB501_495.out
       have hnc60 := NB495_501.out
       have hnb61 := NB501_496.out
       have hnc61 := NB496_501.out
       have hnb62 := NB501_502.out
       have hnc62 := NB502_501.out
       have hnb63 := NB501_508.out
       have hnc63 := NB508_501.out
       have hcz64_0 : w30.cell? ⟨gb501, 0, none⟩ = some (.int .i8 t497) := (blk_cell BK501.out 0).trans rfl
       have hcz64_1 : w30.cell? ⟨gb501, 1, none⟩ = some (.int .i8 t498) := (blk_cell BK501.out 1).trans rfl
       have hfz64_0 := blk_frozen BK501.out 0
       have hfz64_1 := blk_frozen BK501.out 1
       go_wp2_with (first | ((with_reducible refine gate_callee (f := 27) rfl ?_); refine goesL_ (some 22) rfl rfl Tryd.func27 (by kernel_rfl) rfl #[.agg #[.int .i8 t497, .int .i8 t498]] rfl (by (try simp only [List.map_toArray, List.map_cons, List.map_nil]); first | done | rfl | (simp only [List.length_drop, List.length_take]; rfl)) ?_; (with_reducible refine (strength_Valid.calls t497 t498 true _ A36.out).mono ?_); rintro e w65 ⟨rfl, hb⟩; refine ⟨_, rfl, ?_⟩; have n0_ := Aside0.mk (Kd.R_below (by (with_reducible repeat (first | apply Kd.R_alloc | apply Kd.R_drewN | apply Kd.R_drew)); exact (Kd.R_mono (Kd.R_far (p := ⟨gb508, 1, none⟩) (Kd.R_far (p := ⟨gb508, 0, none⟩) (Kd.R_mono HO505.out (fun k_ hk => (⟨hk, hk.2⟩ : _ ∧ k_ ≠ gb508))) (fun _ hk => hk.2) (.int .i8 t506)) (fun _ hk => hk.2) (.int .i8 t507)) (fun _ h_ => h_.1))) hb); have n1_ := Aside0.mk (blk_below (g := gb495) (o := .cells #[.int .i8 a0_0, .int .i8 a0_1] 35 (0, 0)) (by (with_reducible repeat first | apply bN | apply bD | apply bA); refine blk_far ?_ NB495_508.out _; (with_reducible repeat first | apply bN | apply bD | apply bA); refine blk_far ?_ NB495_508.out _; (with_reducible repeat first | apply bN | apply bD | apply bA); exact BK495.out) hb); have n2_ := Aside0.mk (blk_below (g := gb496) (o := .cells #[.int .i8 a1_0, .int .i8 a1_1] 35 (0, 0)) (by (with_reducible repeat first | apply bN | apply bD | apply bA); refine blk_far ?_ NB496_508.out _; (with_reducible repeat first | apply bN | apply bD | apply bA); refine blk_far ?_ NB496_508.out _; (with_reducible repeat first | apply bN | apply bD | apply bA); exact BK496.out) hb); have n3_ := Aside0.mk (blk_below (g := gb501) (o := .cells #[.int .i8 t497, .int .i8 t498] 26 (0, 0)) (by (with_reducible repeat first | apply bN | apply bD | apply bA); refine blk_far ?_ NB501_508.out _; (with_reducible repeat first | apply bN | apply bD | apply bA); refine blk_far ?_ NB501_508.out _; (with_reducible repeat first | apply bN | apply bD | apply bA); exact BK501.out) hb); have n4_ := Aside0.mk (blk_below (g := gb502) (o := .cells #[.int .i8 t499, .int .i8 t500] 26 (0, 0)) (by (with_reducible repeat first | apply bN | apply bD | apply bA); refine blk_far ?_ NB502_508.out _; (with_reducible repeat first | apply bN | apply bD | apply bA); refine blk_far ?_ NB502_508.out _; (with_reducible repeat first | apply bN | apply bD | apply bA); exact BK502.out) hb); have n5_ := Aside0.mk (blk_below (g := gb508) (o := .cells #[.int .i8 t506, .int .i8 t507] 26 (0, 0)) (by (with_reducible repeat first | apply bN | apply bD | apply bA); refine blk_put (cs := #[.int .i8 t506, .int .i8 0]) ?_ 1 _ rfl; (with_reducible repeat first | apply bN | apply bD | apply bA); refine blk_put (cs := #[.int .i8 0, .int .i8 0]) ?_ 0 _ rfl; (with_reducible repeat first | apply bN | apply bD | apply bA); exact BK508.out) hb); have n6_ := Aside0.mk (below_step (by repeat (first | (with_reducible first | exact HB.out | apply below_alloc | apply pw_below_drewN | apply below_drew1 | refine below_set ?_ GE495.out | refine below_set ?_ GE496.out | refine below_set ?_ GE501.out | refine below_set ?_ GE502.out | refine below_set ?_ GE508.out) | exact HB.out)) hb); clear HO505; clear BK495; clear BK496; clear BK501; clear BK502; clear BK508; clear HB; have HO505 := n0_; have BK495 := n1_; have BK496 := n2_; have BK501 := n3_; have BK502 := n4_; have BK508 := n5_; have HB := n6_; clear n0_ n1_ n2_ n3_ n4_ n5_ n6_; (try clear hb); (try clear hb2); (try clear hk); (try clear hi); have hnb66 := NB502_495.out; have hnc66 := NB495_502.out; have hnb67 := NB502_496.out; have hnc67 := NB496_502.out; have hnb68 := NB502_508.out; have hnc68 := NB508_502.out; have hcz69_0 : w65.cell? ⟨gb502, 0, none⟩ = some (.int .i8 t499) := (blk_cell BK502.out 0).trans rfl; have hcz69_1 : w65.cell? ⟨gb502, 1, none⟩ = some (.int .i8 t500) := (blk_cell BK502.out 1).trans rfl; have hfz69_0 := blk_frozen BK502.out 0; have hfz69_1 := blk_frozen BK502.out 1) | (go_at_call 27; (with_reducible refine (strength_Valid.calls t499 t500 true _ A38.out).mono ?_); rintro e w70 ⟨rfl, hb⟩; have n0_ := Aside0.mk (Kd.R_below (by (with_reducible repeat (first | apply Kd.R_alloc | apply Kd.R_drewN | apply Kd.R_drew)); exact HO505.out) hb); have n1_ := Aside0.mk (blk_below (g := gb495) (o := .cells #[.int .i8 a0_0, .int .i8 a0_1] 35 (0, 0)) (by (with_reducible repeat first | apply bN | apply bD | apply bA); exact BK495.out) hb); have n2_ := Aside0.mk (blk_below (g := gb496) (o := .cells #[.int .i8 a1_0, .int .i8 a1_1] 35 (0, 0)) (by (with_reducible repeat first | apply bN | apply bD | apply bA); exact BK496.out) hb); have n3_ := Aside0.mk (blk_below (g := gb501) (o := .cells #[.int .i8 t497, .int .i8 t498] 26 (0, 0)) (by (with_reducible repeat first | apply bN | apply bD | apply bA); exact BK501.out) hb); have n4_ := Aside0.mk (blk_below (g := gb502) (o := .cells #[.int .i8 t499, .int .i8 t500] 26 (0, 0)) (by (with_reducible repeat first | apply bN | apply bD | apply bA); exact BK502.out) hb); have n5_ := Aside0.mk (blk_below (g := gb508) (o := .cells #[.int .i8 t506, .int .i8 t507] 26 (0, 0)) (by (with_reducible repeat first | apply bN | apply bD | apply bA); exact BK508.out) hb); have n6_ := Aside0.mk (below_step (by repeat (first | (with_reducible first | exact HB.out | apply below_alloc | apply pw_below_drewN | apply below_drew1 | refine below_set ?_ GE495.out | refine below_set ?_ GE496.out | refine below_set ?_ GE501.out | refine below_set ?_ GE502.out | refine below_set ?_ GE508.out) | exact HB.out)) hb); clear HO505; clear BK495; clear BK496; clear BK501; clear BK502; clear BK508; clear HB; have HO505 := n0_; have BK495 := n1_; have BK496 := n2_; have BK501 := n3_; have BK502 := n4_; have BK508 := n5_; have HB := n6_; clear n0_ n1_ n2_ n3_ n4_ n5_ n6_; (try clear hb); (try clear hb2); (try clear hk); (try clear hi); have hnb71 := NB508_495.out; have hnc71 := NB495_508.out; have hnb72 := NB508_496.out; have hnc72 := NB496_508.out; have hcz73_0 : w70.cell? ⟨gb508, 0, none⟩ = some (.int .i8 t506) := (blk_cell BK508.out 0).trans rfl; have hcz73_1 : w70.cell? ⟨gb508, 1, none⟩ = some (.int .i8 t507) := (blk_cell BK508.out 1).trans rfl; have hfz73_0 := blk_frozen BK508.out 0; have hfz73_1 := blk_frozen BK508.out 1) | (go_at_call 27; (with_reducible refine (strength_Valid.calls t506 t507 true _ A40.out).mono ?_); rintro e w74 ⟨rfl, hb⟩; have n0_ := Aside0.mk (Kd.R_below (by (with_reducible repeat (first | apply Kd.R_alloc | apply Kd.R_drewN | apply Kd.R_drew)); exact HO505.out) hb); have n1_ := Aside0.mk (blk_below (g := gb495) (o := .cells #[.int .i8 a0_0, .int .i8 a0_1] 35 (0, 0)) (by (with_reducible repeat first | apply bN | apply bD | apply bA); exact BK495.out) hb); have n2_ := Aside0.mk (blk_below (g := gb496) (o := .cells #[.int .i8 a1_0, .int .i8 a1_1] 35 (0, 0)) (by (with_reducible repeat first | apply bN | apply bD | apply bA); exact BK496.out) hb); have n3_ := Aside0.mk (blk_below (g := gb501) (o := .cells #[.int .i8 t497, .int .i8 t498] 26 (0, 0)) (by (with_reducible repeat first | apply bN | apply bD | apply bA); exact BK501.out) hb); have n4_ := Aside0.mk (blk_below (g := gb502) (o := .cells #[.int .i8 t499, .int .i8 t500] 26 (0, 0)) (by (with_reducible repeat first | apply bN | apply bD | apply bA); exact BK502.out) hb); have n5_ := Aside0.mk (blk_below (g := gb508) (o := .cells #[.int .i8 t506, .int .i8 t507] 26 (0, 0)) (by (with_reducible repeat first | apply bN | apply bD | apply bA); exact BK508.out) hb); have n6_ := Aside0.mk (below_step (by repeat (first | (with_reducible first | exact HB.out | apply below_alloc | apply pw_below_drewN | apply below_drew1 | refine below_set ?_ GE495.out | refine below_set ?_ GE496.out | refine below_set ?_ GE501.out | refine below_set ?_ GE502.out | refine below_set ?_ GE508.out) | exact HB.out)) hb); clear HO505; clear BK495; clear BK496; clear BK501; clear BK502; clear BK508; clear HB; have HO505 := n0_; have BK495 := n1_; have BK496 := n2_; have BK501 := n3_; have BK502 := n4_; have BK508 := n5_; have HB := n6_; clear n0_ n1_ n2_ n3_ n4_ n5_ n6_; (try clear hb); (try clear hb2); (try clear hk); (try clear hi); have hcz75_0 : w74.cell? ⟨gb501, 0, none⟩ = some (.int .i8 t497) := (blk_cell BK501.out 0).trans rfl; have hcz75_1 : w74.cell? ⟨gb501, 1, none⟩ = some (.int .i8 t498) := (blk_cell BK501.out 1).trans rfl; have hfz75_0 := blk_frozen BK501.out 0; have hfz75_1 := blk_frozen BK501.out 1))
       go_meet
       case rel => exact ⟨_, (true), (by first | rfl | (simp; done) | (simp [*]; done)), H', ⟨by first | omega | exact Nat.le_refl _⟩, ⟨by (with_reducible repeat first | apply bN | apply bD | apply bA); exact BK495.out⟩, ⟨by (with_reducible repeat first | apply bN | apply bD | apply bA); exact BK496.out⟩, ⟨by (with_reducible repeat first | apply bN | apply bD | apply bA); exact BK501.out⟩, ⟨by (with_reducible repeat first | apply bN | apply bD | apply bA); exact BK502.out⟩, ⟨by (with_reducible repeat first | apply bN | apply bD | apply bA); exact BK508.out⟩, ⟨by repeat (first | (with_reducible first | exact HB.out | apply below_alloc | apply pw_below_drewN | apply below_drew1 | refine below_set ?_ GE495.out | refine below_set ?_ GE496.out | refine below_set ?_ GE501.out | refine below_set ?_ GE502.out | refine below_set ?_ GE508.out) | exact HB.out)⟩⟩
      ·rw [if_neg c59] at H
       have c59b0 : decide (7 < t498) = false := decide_eq_false c59
       clear c59
       by_cases c76 : t499 < (-7)
       ·rw [if_pos c76] at H
        have c76b0 : decide (t499 < (-7)) = true := decide_eq_true c76
        clear c76
        have H' := Aside0.mk H
        clear H
        have hnb77 := NB501_495.out
        have hnc77 := NB495_501.out
        have hnb78 := NB501_496.out
        have hnc78 := NB496_501.out
        have hnb79 := NB501_502.out
        have hnc79 := NB502_501.out
        have hnb80 := NB501_508.out
        have hnc80 := NB508_501.out
        have hcz81_0 : w30.cell? ⟨gb501, 0, none⟩ = some (.int .i8 t497) := (blk_cell BK501.out 0).trans rfl
        have hcz81_1 : w30.cell? ⟨gb501, 1, none⟩ = some (.int .i8 t498) := (blk_cell BK501.out 1).trans rfl
        have hfz81_0 := blk_frozen BK501.out 0
        have hfz81_1 := blk_frozen BK501.out 1
        go_wp2_with (first | ((with_reducible refine gate_callee (f := 27) rfl ?_); refine goesL_ (some 22) rfl rfl Tryd.func27 (by kernel_rfl) rfl #[.agg #[.int .i8 t497, .int .i8 t498]] rfl (by (try simp only [List.map_toArray, List.map_cons, List.map_nil]); first | done | rfl | (simp only [List.length_drop, List.length_take]; rfl)) ?_; (with_reducible refine (strength_Valid.calls t497 t498 true _ A36.out).mono ?_); rintro e w82 ⟨rfl, hb⟩; refine ⟨_, rfl, ?_⟩; have n0_ := Aside0.mk (Kd.R_below (by (with_reducible repeat (first | apply Kd.R_alloc | apply Kd.R_drewN | apply Kd.R_drew)); exact (Kd.R_mono (Kd.R_far (p := ⟨gb508, 1, none⟩) (Kd.R_far (p := ⟨gb508, 0, none⟩) (Kd.R_mono HO505.out (fun k_ hk => (⟨hk, hk.2⟩ : _ ∧ k_ ≠ gb508))) (fun _ hk => hk.2) (.int .i8 t506)) (fun _ hk => hk.2) (.int .i8 t507)) (fun _ h_ => h_.1))) hb); have n1_ := Aside0.mk (blk_below (g := gb495) (o := .cells #[.int .i8 a0_0, .int .i8 a0_1] 35 (0, 0)) (by (with_reducible repeat first | apply bN | apply bD | apply bA); refine blk_far ?_ NB495_508.out _; (with_reducible repeat first | apply bN | apply bD | apply bA); refine blk_far ?_ NB495_508.out _; (with_reducible repeat first | apply bN | apply bD | apply bA); exact BK495.out) hb); have n2_ := Aside0.mk (blk_below (g := gb496) (o := .cells #[.int .i8 a1_0, .int .i8 a1_1] 35 (0, 0)) (by (with_reducible repeat first | apply bN | apply bD | apply bA); refine blk_far ?_ NB496_508.out _; (with_reducible repeat first | apply bN | apply bD | apply bA); refine blk_far ?_ NB496_508.out _; (with_reducible repeat first | apply bN | apply bD | apply bA); exact BK496.out) hb); have n3_ := Aside0.mk (blk_below (g := gb501) (o := .cells #[.int .i8 t497, .int .i8 t498] 26 (0, 0)) (by (with_reducible repeat first | apply bN | apply bD | apply bA); refine blk_far ?_ NB501_508.out _; (with_reducible repeat first | apply bN | apply bD | apply bA); refine blk_far ?_ NB501_508.out _; (with_reducible repeat first | apply bN | apply bD | apply bA); exact BK501.out) hb); have n4_ := Aside0.mk (blk_below (g := gb502) (o := .cells #[.int .i8 t499, .int .i8 t500] 26 (0, 0)) (by (with_reducible repeat first | apply bN | apply bD | apply bA); refine blk_far ?_ NB502_508.out _; (with_reducible repeat first | apply bN | apply bD | apply bA); refine blk_far ?_ NB502_508.out _; (with_reducible repeat first | apply bN | apply bD | apply bA); exact BK502.out) hb); have n5_ := Aside0.mk (blk_below (g := gb508) (o := .cells #[.int .i8 t506, .int .i8 t507] 26 (0, 0)) (by (with_reducible repeat first | apply bN | apply bD | apply bA); refine blk_put (cs := #[.int .i8 t506, .int .i8 0]) ?_ 1 _ rfl; (with_reducible repeat first | apply bN | apply bD | apply bA); refine blk_put (cs := #[.int .i8 0, .int .i8 0]) ?_ 0 _ rfl; (with_reducible repeat first | apply bN | apply bD | apply bA); exact BK508.out) hb); have n6_ := Aside0.mk (below_step (by repeat (first | (with_reducible first | exact HB.out | apply below_alloc | apply pw_below_drewN | apply below_drew1 | refine below_set ?_ GE495.out | refine below_set ?_ GE496.out | refine below_set ?_ GE501.out | refine below_set ?_ GE502.out | refine below_set ?_ GE508.out) | exact HB.out)) hb); clear HO505; clear BK495; clear BK496; clear BK501; clear BK502; clear BK508; clear HB; have HO505 := n0_; have BK495 := n1_; have BK496 := n2_; have BK501 := n3_; have BK502 := n4_; have BK508 := n5_; have HB := n6_; clear n0_ n1_ n2_ n3_ n4_ n5_ n6_; (try clear hb); (try clear hb2); (try clear hk); (try clear hi); have hnb83 := NB502_495.out; have hnc83 := NB495_502.out; have hnb84 := NB502_496.out; have hnc84 := NB496_502.out; have hnb85 := NB502_508.out; have hnc85 := NB508_502.out; have hcz86_0 : w82.cell? ⟨gb502, 0, none⟩ = some (.int .i8 t499) := (blk_cell BK502.out 0).trans rfl; have hcz86_1 : w82.cell? ⟨gb502, 1, none⟩ = some (.int .i8 t500) := (blk_cell BK502.out 1).trans rfl; have hfz86_0 := blk_frozen BK502.out 0; have hfz86_1 := blk_frozen BK502.out 1) | (go_at_call 27; (with_reducible refine (strength_Valid.calls t499 t500 true _ A38.out).mono ?_); rintro e w87 ⟨rfl, hb⟩; have n0_ := Aside0.mk (Kd.R_below (by (with_reducible repeat (first | apply Kd.R_alloc | apply Kd.R_drewN | apply Kd.R_drew)); exact HO505.out) hb); have n1_ := Aside0.mk (blk_below (g := gb495) (o := .cells #[.int .i8 a0_0, .int .i8 a0_1] 35 (0, 0)) (by (with_reducible repeat first | apply bN | apply bD | apply bA); exact BK495.out) hb); have n2_ := Aside0.mk (blk_below (g := gb496) (o := .cells #[.int .i8 a1_0, .int .i8 a1_1] 35 (0, 0)) (by (with_reducible repeat first | apply bN | apply bD | apply bA); exact BK496.out) hb); have n3_ := Aside0.mk (blk_below (g := gb501) (o := .cells #[.int .i8 t497, .int .i8 t498] 26 (0, 0)) (by (with_reducible repeat first | apply bN | apply bD | apply bA); exact BK501.out) hb); have n4_ := Aside0.mk (blk_below (g := gb502) (o := .cells #[.int .i8 t499, .int .i8 t500] 26 (0, 0)) (by (with_reducible repeat first | apply bN | apply bD | apply bA); exact BK502.out) hb); have n5_ := Aside0.mk (blk_below (g := gb508) (o := .cells #[.int .i8 t506, .int .i8 t507] 26 (0, 0)) (by (with_reducible repeat first | apply bN | apply bD | apply bA); exact BK508.out) hb); have n6_ := Aside0.mk (below_step (by repeat (first | (with_reducible first | exact HB.out | apply below_alloc | apply pw_below_drewN | apply below_drew1 | refine below_set ?_ GE495.out | refine below_set ?_ GE496.out | refine below_set ?_ GE501.out | refine below_set ?_ GE502.out | refine below_set ?_ GE508.out) | exact HB.out)) hb); clear HO505; clear BK495; clear BK496; clear BK501; clear BK502; clear BK508; clear HB; have HO505 := n0_; have BK495 := n1_; have BK496 := n2_; have BK501 := n3_; have BK502 := n4_; have BK508 := n5_; have HB := n6_; clear n0_ n1_ n2_ n3_ n4_ n5_ n6_; (try clear hb); (try clear hb2); (try clear hk); (try clear hi); have hnb88 := NB508_495.out; have hnc88 := NB495_508.out; have hnb89 := NB508_496.out; have hnc89 := NB496_508.out; have hcz90_0 : w87.cell? ⟨gb508, 0, none⟩ = some (.int .i8 t506) := (blk_cell BK508.out 0).trans rfl; have hcz90_1 : w87.cell? ⟨gb508, 1, none⟩ = some (.int .i8 t507) := (blk_cell BK508.out 1).trans rfl; have hfz90_0 := blk_frozen BK508.out 0; have hfz90_1 := blk_frozen BK508.out 1) | (go_at_call 27; (with_reducible refine (strength_Valid.calls t506 t507 true _ A40.out).mono ?_); rintro e w91 ⟨rfl, hb⟩; have n0_ := Aside0.mk (Kd.R_below (by (with_reducible repeat (first | apply Kd.R_alloc | apply Kd.R_drewN | apply Kd.R_drew)); exact HO505.out) hb); have n1_ := Aside0.mk (blk_below (g := gb495) (o := .cells #[.int .i8 a0_0, .int .i8 a0_1] 35 (0, 0)) (by (with_reducible repeat first | apply bN | apply bD | apply bA); exact BK495.out) hb); have n2_ := Aside0.mk (blk_below (g := gb496) (o := .cells #[.int .i8 a1_0, .int .i8 a1_1] 35 (0, 0)) (by (with_reducible repeat first | apply bN | apply bD | apply bA); exact BK496.out) hb); have n3_ := Aside0.mk (blk_below (g := gb501) (o := .cells #[.int .i8 t497, .int .i8 t498] 26 (0, 0)) (by (with_reducible repeat first | apply bN | apply bD | apply bA); exact BK501.out) hb); have n4_ := Aside0.mk (blk_below (g := gb502) (o := .cells #[.int .i8 t499, .int .i8 t500] 26 (0, 0)) (by (with_reducible repeat first | apply bN | apply bD | apply bA); exact BK502.out) hb); have n5_ := Aside0.mk (blk_below (g := gb508) (o := .cells #[.int .i8 t506, .int .i8 t507] 26 (0, 0)) (by (with_reducible repeat first | apply bN | apply bD | apply bA); exact BK508.out) hb); have n6_ := Aside0.mk (below_step (by repeat (first | (with_reducible first | exact HB.out | apply below_alloc | apply pw_below_drewN | apply below_drew1 | refine below_set ?_ GE495.out | refine below_set ?_ GE496.out | refine below_set ?_ GE501.out | refine below_set ?_ GE502.out | refine below_set ?_ GE508.out) | exact HB.out)) hb); clear HO505; clear BK495; clear BK496; clear BK501; clear BK502; clear BK508; clear HB; have HO505 := n0_; have BK495 := n1_; have BK496 := n2_; have BK501 := n3_; have BK502 := n4_; have BK508 := n5_; have HB := n6_; clear n0_ n1_ n2_ n3_ n4_ n5_ n6_; (try clear hb); (try clear hb2); (try clear hk); (try clear hi); have hcz92_0 : w91.cell? ⟨gb501, 0, none⟩ = some (.int .i8 t497) := (blk_cell BK501.out 0).trans rfl; have hcz92_1 : w91.cell? ⟨gb501, 1, none⟩ = some (.int .i8 t498) := (blk_cell BK501.out 1).trans rfl; have hfz92_0 := blk_frozen BK501.out 0; have hfz92_1 := blk_frozen BK501.out 1; have hcz93_0 : w91.cell? ⟨gb502, 0, none⟩ = some (.int .i8 t499) := (blk_cell BK502.out 0).trans rfl; have hcz93_1 : w91.cell? ⟨gb502, 1, none⟩ = some (.int .i8 t500) := (blk_cell BK502.out 1).trans rfl; have hfz93_0 := blk_frozen BK502.out 0; have hfz93_1 := blk_frozen BK502.out 1))
        go_meet
        case rel => exact ⟨_, (true), (by first | rfl | (simp; done) | (simp [*]; done)), H', ⟨by first | omega | exact Nat.le_refl _⟩, ⟨by (with_reducible repeat first | apply bN | apply bD | apply bA); exact BK495.out⟩, ⟨by (with_reducible repeat first | apply bN | apply bD | apply bA); exact BK496.out⟩, ⟨by (with_reducible repeat first | apply bN | apply bD | apply bA); exact BK501.out⟩, ⟨by (with_reducible repeat first | apply bN | apply bD | apply bA); exact BK502.out⟩, ⟨by (with_reducible repeat first | apply bN | apply bD | apply bA); exact BK508.out⟩, ⟨by repeat (first | (with_reducible first | exact HB.out | apply below_alloc | apply pw_below_drewN | apply below_drew1 | refine below_set ?_ GE495.out | refine below_set ?_ GE496.out | refine below_set ?_ GE501.out | refine below_set ?_ GE502.out | refine below_set ?_ GE508.out) | exact HB.out)⟩⟩
       ·rw [if_neg c76] at H
        have c76b0 : decide (t499 < (-7)) = false := decide_eq_false c76
        clear c76
        have H' := Aside0.mk H
        clear H
        have hnb94 := NB501_495.out
        have hnc94 := NB495_501.out
        have hnb95 := NB501_496.out
        have hnc95 := NB496_501.out
        have hnb96 := NB501_502.out
        have hnc96 := NB502_501.out
        have hnb97 := NB501_508.out
        have hnc97 := NB508_501.out
        have hcz98_0 : w30.cell? ⟨gb501, 0, none⟩ = some (.int .i8 t497) := (blk_cell BK501.out 0).trans rfl
        have hcz98_1 : w30.cell? ⟨gb501, 1, none⟩ = some (.int .i8 t498) := (blk_cell BK501.out 1).trans rfl
        have hfz98_0 := blk_frozen BK501.out 0
        have hfz98_1 := blk_frozen BK501.out 1
        go_wp2_with (first | ((with_reducible refine gate_callee (f := 27) rfl ?_); refine goesL_ (some 22) rfl rfl Tryd.func27 (by kernel_rfl) rfl #[.agg #[.int .i8 t497, .int .i8 t498]] rfl (by (try simp only [List.map_toArray, List.map_cons, List.map_nil]); first | done | rfl | (simp only [List.length_drop, List.length_take]; rfl)) ?_; (with_reducible refine (strength_Valid.calls t497 t498 true _ A36.out).mono ?_); rintro e w99 ⟨rfl, hb⟩; refine ⟨_, rfl, ?_⟩; have n0_ := Aside0.mk (Kd.R_below (by (with_reducible repeat (first | apply Kd.R_alloc | apply Kd.R_drewN | apply Kd.R_drew)); exact (Kd.R_mono (Kd.R_far (p := ⟨gb508, 1, none⟩) (Kd.R_far (p := ⟨gb508, 0, none⟩) (Kd.R_mono HO505.out (fun k_ hk => (⟨hk, hk.2⟩ : _ ∧ k_ ≠ gb508))) (fun _ hk => hk.2) (.int .i8 t506)) (fun _ hk => hk.2) (.int .i8 t507)) (fun _ h_ => h_.1))) hb); have n1_ := Aside0.mk (blk_below (g := gb495) (o := .cells #[.int .i8 a0_0, .int .i8 a0_1] 35 (0, 0)) (by (with_reducible repeat first | apply bN | apply bD | apply bA); refine blk_far ?_ NB495_508.out _; (with_reducible repeat first | apply bN | apply bD | apply bA); refine blk_far ?_ NB495_508.out _; (with_reducible repeat first | apply bN | apply bD | apply bA); exact BK495.out) hb); have n2_ := Aside0.mk (blk_below (g := gb496) (o := .cells #[.int .i8 a1_0, .int .i8 a1_1] 35 (0, 0)) (by (with_reducible repeat first | apply bN | apply bD | apply bA); refine blk_far ?_ NB496_508.out _; (with_reducible repeat first | apply bN | apply bD | apply bA); refine blk_far ?_ NB496_508.out _; (with_reducible repeat first | apply bN | apply bD | apply bA); exact BK496.out) hb); have n3_ := Aside0.mk (blk_below (g := gb501) (o := .cells #[.int .i8 t497, .int .i8 t498] 26 (0, 0)) (by (with_reducible repeat first | apply bN | apply bD | apply bA); refine blk_far ?_ NB501_508.out _; (with_reducible repeat first | apply bN | apply bD | apply bA); refine blk_far ?_ NB501_508.out _; (with_reducible repeat first | apply bN | apply bD | apply bA); exact BK501.out) hb); have n4_ := Aside0.mk (blk_below (g := gb502) (o := .cells #[.int .i8 t499, .int .i8 t500] 26 (0, 0)) (by (with_reducible repeat first | apply bN | apply bD | apply bA); refine blk_far ?_ NB502_508.out _; (with_reducible repeat first | apply bN | apply bD | apply bA); refine blk_far ?_ NB502_508.out _; (with_reducible repeat first | apply bN | apply bD | apply bA); exact BK502.out) hb); have n5_ := Aside0.mk (blk_below (g := gb508) (o := .cells #[.int .i8 t506, .int .i8 t507] 26 (0, 0)) (by (with_reducible repeat first | apply bN | apply bD | apply bA); refine blk_put (cs := #[.int .i8 t506, .int .i8 0]) ?_ 1 _ rfl; (with_reducible repeat first | apply bN | apply bD | apply bA); refine blk_put (cs := #[.int .i8 0, .int .i8 0]) ?_ 0 _ rfl; (with_reducible repeat first | apply bN | apply bD | apply bA); exact BK508.out) hb); have n6_ := Aside0.mk (below_step (by repeat (first | (with_reducible first | exact HB.out | apply below_alloc | apply pw_below_drewN | apply below_drew1 | refine below_set ?_ GE495.out | refine below_set ?_ GE496.out | refine below_set ?_ GE501.out | refine below_set ?_ GE502.out | refine below_set ?_ GE508.out) | exact HB.out)) hb); clear HO505; clear BK495; clear BK496; clear BK501; clear BK502; clear BK508; clear HB; have HO505 := n0_; have BK495 := n1_; have BK496 := n2_; have BK501 := n3_; have BK502 := n4_; have BK508 := n5_; have HB := n6_; clear n0_ n1_ n2_ n3_ n4_ n5_ n6_; (try clear hb); (try clear hb2); (try clear hk); (try clear hi); have hnb100 := NB502_495.out; have hnc100 := NB495_502.out; have hnb101 := NB502_496.out; have hnc101 := NB496_502.out; have hnb102 := NB502_508.out; have hnc102 := NB508_502.out; have hcz103_0 : w99.cell? ⟨gb502, 0, none⟩ = some (.int .i8 t499) := (blk_cell BK502.out 0).trans rfl; have hcz103_1 : w99.cell? ⟨gb502, 1, none⟩ = some (.int .i8 t500) := (blk_cell BK502.out 1).trans rfl; have hfz103_0 := blk_frozen BK502.out 0; have hfz103_1 := blk_frozen BK502.out 1) | (go_at_call 27; (with_reducible refine (strength_Valid.calls t499 t500 true _ A38.out).mono ?_); rintro e w104 ⟨rfl, hb⟩; have n0_ := Aside0.mk (Kd.R_below (by (with_reducible repeat (first | apply Kd.R_alloc | apply Kd.R_drewN | apply Kd.R_drew)); exact HO505.out) hb); have n1_ := Aside0.mk (blk_below (g := gb495) (o := .cells #[.int .i8 a0_0, .int .i8 a0_1] 35 (0, 0)) (by (with_reducible repeat first | apply bN | apply bD | apply bA); exact BK495.out) hb); have n2_ := Aside0.mk (blk_below (g := gb496) (o := .cells #[.int .i8 a1_0, .int .i8 a1_1] 35 (0, 0)) (by (with_reducible repeat first | apply bN | apply bD | apply bA); exact BK496.out) hb); have n3_ := Aside0.mk (blk_below (g := gb501) (o := .cells #[.int .i8 t497, .int .i8 t498] 26 (0, 0)) (by (with_reducible repeat first | apply bN | apply bD | apply bA); exact BK501.out) hb); have n4_ := Aside0.mk (blk_below (g := gb502) (o := .cells #[.int .i8 t499, .int .i8 t500] 26 (0, 0)) (by (with_reducible repeat first | apply bN | apply bD | apply bA); exact BK502.out) hb); have n5_ := Aside0.mk (blk_below (g := gb508) (o := .cells #[.int .i8 t506, .int .i8 t507] 26 (0, 0)) (by (with_reducible repeat first | apply bN | apply bD | apply bA); exact BK508.out) hb); have n6_ := Aside0.mk (below_step (by repeat (first | (with_reducible first | exact HB.out | apply below_alloc | apply pw_below_drewN | apply below_drew1 | refine below_set ?_ GE495.out | refine below_set ?_ GE496.out | refine below_set ?_ GE501.out | refine below_set ?_ GE502.out | refine below_set ?_ GE508.out) | exact HB.out)) hb); clear HO505; clear BK495; clear BK496; clear BK501; clear BK502; clear BK508; clear HB; have HO505 := n0_; have BK495 := n1_; have BK496 := n2_; have BK501 := n3_; have BK502 := n4_; have BK508 := n5_; have HB := n6_; clear n0_ n1_ n2_ n3_ n4_ n5_ n6_; (try clear hb); (try clear hb2); (try clear hk); (try clear hi); have hnb105 := NB508_495.out; have hnc105 := NB495_508.out; have hnb106 := NB508_496.out; have hnc106 := NB496_508.out; have hcz107_0 : w104.cell? ⟨gb508, 0, none⟩ = some (.int .i8 t506) := (blk_cell BK508.out 0).trans rfl; have hcz107_1 : w104.cell? ⟨gb508, 1, none⟩ = some (.int .i8 t507) := (blk_cell BK508.out 1).trans rfl; have hfz107_0 := blk_frozen BK508.out 0; have hfz107_1 := blk_frozen BK508.out 1) | (go_at_call 27; (with_reducible refine (strength_Valid.calls t506 t507 true _ A40.out).mono ?_); rintro e w108 ⟨rfl, hb⟩; have n0_ := Aside0.mk (Kd.R_below (by (with_reducible repeat (first | apply Kd.R_alloc | apply Kd.R_drewN | apply Kd.R_drew)); exact HO505.out) hb); have n1_ := Aside0.mk (blk_below (g := gb495) (o := .cells #[.int .i8 a0_0, .int .i8 a0_1] 35 (0, 0)) (by (with_reducible repeat first | apply bN | apply bD | apply bA); exact BK495.out) hb); have n2_ := Aside0.mk (blk_below (g := gb496) (o := .cells #[.int .i8 a1_0, .int .i8 a1_1] 35 (0, 0)) (by (with_reducible repeat first | apply bN | apply bD | apply bA); exact BK496.out) hb); have n3_ := Aside0.mk (blk_below (g := gb501) (o := .cells #[.int .i8 t497, .int .i8 t498] 26 (0, 0)) (by (with_reducible repeat first | apply bN | apply bD | apply bA); exact BK501.out) hb); have n4_ := Aside0.mk (blk_below (g := gb502) (o := .cells #[.int .i8 t499, .int .i8 t500] 26 (0, 0)) (by (with_reducible repeat first | apply bN | apply bD | apply bA); exact BK502.out) hb); have n5_ := Aside0.mk (blk_below (g := gb508) (o := .cells #[.int .i8 t506, .int .i8 t507] 26 (0, 0)) (by (with_reducible repeat first | apply bN | apply bD | apply bA); exact BK508.out) hb); have n6_ := Aside0.mk (below_step (by repeat (first | (with_reducible first | exact HB.out | apply below_alloc | apply pw_below_drewN | apply below_drew1 | refine below_set ?_ GE495.out | refine below_set ?_ GE496.out | refine below_set ?_ GE501.out | refine below_set ?_ GE502.out | refine below_set ?_ GE508.out) | exact HB.out)) hb); clear HO505; clear BK495; clear BK496; clear BK501; clear BK502; clear BK508; clear HB; have HO505 := n0_; have BK495 := n1_; have BK496 := n2_; have BK501 := n3_; have BK502 := n4_; have BK508 := n5_; have HB := n6_; clear n0_ n1_ n2_ n3_ n4_ n5_ n6_; (try clear hb); (try clear hb2); (try clear hk); (try clear hi); have hcz109_0 : w108.cell? ⟨gb501, 0, none⟩ = some (.int .i8 t497) := (blk_cell BK501.out 0).trans rfl; have hcz109_1 : w108.cell? ⟨gb501, 1, none⟩ = some (.int .i8 t498) := (blk_cell BK501.out 1).trans rfl; have hfz109_0 := blk_frozen BK501.out 0; have hfz109_1 := blk_frozen BK501.out 1; have hcz110_0 : w108.cell? ⟨gb502, 0, none⟩ = some (.int .i8 t499) := (blk_cell BK502.out 0).trans rfl; have hcz110_1 : w108.cell? ⟨gb502, 1, none⟩ = some (.int .i8 t500) := (blk_cell BK502.out 1).trans rfl; have hfz110_0 := blk_frozen BK502.out 0; have hfz110_1 := blk_frozen BK502.out 1))
        go_meet
        case rel => exact ⟨_, (decide (t500 > 7)), (by first | rfl | (simp; done) | (simp [*]; done)), H', ⟨by first | omega | exact Nat.le_refl _⟩, ⟨by (with_reducible repeat first | apply bN | apply bD | apply bA); exact BK495.out⟩, ⟨by (with_reducible repeat first | apply bN | apply bD | apply bA); exact BK496.out⟩, ⟨by (with_reducible repeat first | apply bN | apply bD | apply bA); exact BK501.out⟩, ⟨by (with_reducible repeat first | apply bN | apply bD | apply bA); exact BK502.out⟩, ⟨by (with_reducible repeat first | apply bN | apply bD | apply bA); exact BK508.out⟩, ⟨by repeat (first | (with_reducible first | exact HB.out | apply below_alloc | apply pw_below_drewN | apply below_drew1 | refine below_set ?_ GE495.out | refine below_set ?_ GE496.out | refine below_set ?_ GE501.out | refine below_set ?_ GE502.out | refine below_set ?_ GE508.out) | exact HB.out)⟩⟩
    ·replace c41 := Bool.eq_false_iff.mpr c41
     subst c41
     have H1 : (netlablaw02_StrengthElements.j0 k true t497 t498 t499 t500 t506 t507) = some r := by rw [if_neg (show ¬ (false = true) by decide)] at H; exact H
     clear H
     have H := H1
     clear H1
     have H' := Aside0.mk H
     clear H
     have hnb111 := NB501_495.out
     have hnc111 := NB495_501.out
     have hnb112 := NB501_496.out
     have hnc112 := NB496_501.out
     have hnb113 := NB501_502.out
     have hnc113 := NB502_501.out
     have hnb114 := NB501_508.out
     have hnc114 := NB508_501.out
     have hcz115_0 : w30.cell? ⟨gb501, 0, none⟩ = some (.int .i8 t497) := (blk_cell BK501.out 0).trans rfl
     have hcz115_1 : w30.cell? ⟨gb501, 1, none⟩ = some (.int .i8 t498) := (blk_cell BK501.out 1).trans rfl
     have hfz115_0 := blk_frozen BK501.out 0
     have hfz115_1 := blk_frozen BK501.out 1
     go_wp2_with (first | ((with_reducible refine gate_callee (f := 27) rfl ?_); refine goesL_ (some 22) rfl rfl Tryd.func27 (by kernel_rfl) rfl #[.agg #[.int .i8 t497, .int .i8 t498]] rfl (by (try simp only [List.map_toArray, List.map_cons, List.map_nil]); first | done | rfl | (simp only [List.length_drop, List.length_take]; rfl)) ?_; (with_reducible refine (strength_Valid.calls t497 t498 true _ A36.out).mono ?_); rintro e w116 ⟨rfl, hb⟩; refine ⟨_, rfl, ?_⟩; have n0_ := Aside0.mk (Kd.R_below (by (with_reducible repeat (first | apply Kd.R_alloc | apply Kd.R_drewN | apply Kd.R_drew)); exact (Kd.R_mono (Kd.R_far (p := ⟨gb508, 1, none⟩) (Kd.R_far (p := ⟨gb508, 0, none⟩) (Kd.R_mono HO505.out (fun k_ hk => (⟨hk, hk.2⟩ : _ ∧ k_ ≠ gb508))) (fun _ hk => hk.2) (.int .i8 t506)) (fun _ hk => hk.2) (.int .i8 t507)) (fun _ h_ => h_.1))) hb); have n1_ := Aside0.mk (blk_below (g := gb495) (o := .cells #[.int .i8 a0_0, .int .i8 a0_1] 35 (0, 0)) (by (with_reducible repeat first | apply bN | apply bD | apply bA); refine blk_far ?_ NB495_508.out _; (with_reducible repeat first | apply bN | apply bD | apply bA); refine blk_far ?_ NB495_508.out _; (with_reducible repeat first | apply bN | apply bD | apply bA); exact BK495.out) hb); have n2_ := Aside0.mk (blk_below (g := gb496) (o := .cells #[.int .i8 a1_0, .int .i8 a1_1] 35 (0, 0)) (by (with_reducible repeat first | apply bN | apply bD | apply bA); refine blk_far ?_ NB496_508.out _; (with_reducible repeat first | apply bN | apply bD | apply bA); refine blk_far ?_ NB496_508.out _; (with_reducible repeat first | apply bN | apply bD | apply bA); exact BK496.out) hb); have n3_ := Aside0.mk (blk_below (g := gb501) (o := .cells #[.int .i8 t497, .int .i8 t498] 26 (0, 0)) (by (with_reducible repeat first | apply bN | apply bD | apply bA); refine blk_far ?_ NB501_508.out _; (with_reducible repeat first | apply bN | apply bD | apply bA); refine blk_far ?_ NB501_508.out _; (with_reducible repeat first | apply bN | apply bD | apply bA); exact BK501.out) hb); have n4_ := Aside0.mk (blk_below (g := gb502) (o := .cells #[.int .i8 t499, .int .i8 t500] 26 (0, 0)) (by (with_reducible repeat first | apply bN | apply bD | apply bA); refine blk_far ?_ NB502_508.out _; (with_reducible repeat first | apply bN | apply bD | apply bA); refine blk_far ?_ NB502_508.out _; (with_reducible repeat first | apply bN | apply bD | apply bA); exact BK502.out) hb); have n5_ := Aside0.mk (blk_below (g := gb508) (o := .cells #[.int .i8 t506, .int .i8 t507] 26 (0, 0)) (by (with_reducible repeat first | apply bN | apply bD | apply bA); refine blk_put (cs := #[.int .i8 t506, .int .i8 0]) ?_ 1 _ rfl; (with_reducible repeat first | apply bN | apply bD | apply bA); refine blk_put (cs := #[.int .i8 0, .int .i8 0]) ?_ 0 _ rfl; (with_reducible repeat first | apply bN | apply bD | apply bA); exact BK508.out) hb); have n6_ := Aside0.mk (below_step (by repeat (first | (with_reducible first | exact HB.out | apply below_alloc | apply pw_below_drewN | apply below_drew1 | refine below_set ?_ GE495.out | refine below_set ?_ GE496.out | refine below_set ?_ GE501.out | refine below_set ?_ GE502.out | refine below_set ?_ GE508.out) | exact HB.out)) hb); clear HO505; clear BK495; clear BK496; clear BK501; clear BK502; clear BK508; clear HB; have HO505 := n0_; have BK495 := n1_; have BK496 := n2_; have BK501 := n3_; have BK502 := n4_; have BK508 := n5_; have HB := n6_; clear n0_ n1_ n2_ n3_ n4_ n5_ n6_; (try clear hb); (try clear hb2); (try clear hk); (try clear hi); have hnb117 := NB502_495.out; have hnc117 := NB495_502.out; have hnb118 := NB502_496.out; have hnc118 := NB496_502.out; have hnb119 := NB502_508.out; have hnc119 := NB508_502.out; have hcz120_0 : w116.cell? ⟨gb502, 0, none⟩ = some (.int .i8 t499) := (blk_cell BK502.out 0).trans rfl; have hcz120_1 : w116.cell? ⟨gb502, 1, none⟩ = some (.int .i8 t500) := (blk_cell BK502.out 1).trans rfl; have hfz120_0 := blk_frozen BK502.out 0; have hfz120_1 := blk_frozen BK502.out 1) | (go_at_call 27; (with_reducible refine (strength_Valid.calls t499 t500 true _ A38.out).mono ?_); rintro e w121 ⟨rfl, hb⟩; have n0_ := Aside0.mk (Kd.R_below (by (with_reducible repeat (first | apply Kd.R_alloc | apply Kd.R_drewN | apply Kd.R_drew)); exact HO505.out) hb); have n1_ := Aside0.mk (blk_below (g := gb495) (o := .cells #[.int .i8 a0_0, .int .i8 a0_1] 35 (0, 0)) (by (with_reducible repeat first | apply bN | apply bD | apply bA); exact BK495.out) hb); have n2_ := Aside0.mk (blk_below (g := gb496) (o := .cells #[.int .i8 a1_0, .int .i8 a1_1] 35 (0, 0)) (by (with_reducible repeat first | apply bN | apply bD | apply bA); exact BK496.out) hb); have n3_ := Aside0.mk (blk_below (g := gb501) (o := .cells #[.int .i8 t497, .int .i8 t498] 26 (0, 0)) (by (with_reducible repeat first | apply bN | apply bD | apply bA); exact BK501.out) hb); have n4_ := Aside0.mk (blk_below (g := gb502) (o := .cells #[.int .i8 t499, .int .i8 t500] 26 (0, 0)) (by (with_reducible repeat first | apply bN | apply bD | apply bA); exact BK502.out) hb); have n5_ := Aside0.mk (blk_below (g := gb508) (o := .cells #[.int .i8 t506, .int .i8 t507] 26 (0, 0)) (by (with_reducible repeat first | apply bN | apply bD | apply bA); exact BK508.out) hb); have n6_ := Aside0.mk (below_step (by repeat (first | (with_reducible first | exact HB.out | apply below_alloc | apply pw_below_drewN | apply below_drew1 | refine below_set ?_ GE495.out | refine below_set ?_ GE496.out | refine below_set ?_ GE501.out | refine below_set ?_ GE502.out | refine below_set ?_ GE508.out) | exact HB.out)) hb); clear HO505; clear BK495; clear BK496; clear BK501; clear BK502; clear BK508; clear HB; have HO505 := n0_; have BK495 := n1_; have BK496 := n2_; have BK501 := n3_; have BK502 := n4_; have BK508 := n5_; have HB := n6_; clear n0_ n1_ n2_ n3_ n4_ n5_ n6_; (try clear hb); (try clear hb2); (try clear hk); (try clear hi); have hnb122 := NB508_495.out; have hnc122 := NB495_508.out; have hnb123 := NB508_496.out; have hnc123 := NB496_508.out; have hcz124_0 : w121.cell? ⟨gb508, 0, none⟩ = some (.int .i8 t506) := (blk_cell BK508.out 0).trans rfl; have hcz124_1 : w121.cell? ⟨gb508, 1, none⟩ = some (.int .i8 t507) := (blk_cell BK508.out 1).trans rfl; have hfz124_0 := blk_frozen BK508.out 0; have hfz124_1 := blk_frozen BK508.out 1) | (go_at_call 27; (with_reducible refine (strength_Valid.calls t506 t507 false _ A40.out).mono ?_); rintro e w125 ⟨rfl, hb⟩; have n0_ := Aside0.mk (Kd.R_below (by (with_reducible repeat (first | apply Kd.R_alloc | apply Kd.R_drewN | apply Kd.R_drew)); exact HO505.out) hb); have n1_ := Aside0.mk (blk_below (g := gb495) (o := .cells #[.int .i8 a0_0, .int .i8 a0_1] 35 (0, 0)) (by (with_reducible repeat first | apply bN | apply bD | apply bA); exact BK495.out) hb); have n2_ := Aside0.mk (blk_below (g := gb496) (o := .cells #[.int .i8 a1_0, .int .i8 a1_1] 35 (0, 0)) (by (with_reducible repeat first | apply bN | apply bD | apply bA); exact BK496.out) hb); have n3_ := Aside0.mk (blk_below (g := gb501) (o := .cells #[.int .i8 t497, .int .i8 t498] 26 (0, 0)) (by (with_reducible repeat first | apply bN | apply bD | apply bA); exact BK501.out) hb); have n4_ := Aside0.mk (blk_below (g := gb502) (o := .cells #[.int .i8 t499, .int .i8 t500] 26 (0, 0)) (by (with_reducible repeat first | apply bN | apply bD | apply bA); exact BK502.out) hb); have n5_ := Aside0.mk (blk_below (g := gb508) (o := .cells #[.int .i8 t506, .int .i8 t507] 26 (0, 0)) (by (with_reducible repeat first | apply bN | apply bD | apply bA); exact BK508.out) hb); have n6_ := Aside0.mk (below_step (by repeat (first | (with_reducible first | exact HB.out | apply below_alloc | apply pw_below_drewN | apply below_drew1 | refine below_set ?_ GE495.out | refine below_set ?_ GE496.out | refine below_set ?_ GE501.out | refine below_set ?_ GE502.out | refine below_set ?_ GE508.out) | exact HB.out)) hb); clear HO505; clear BK495; clear BK496; clear BK501; clear BK502; clear BK508; clear HB; have HO505 := n0_; have BK495 := n1_; have BK496 := n2_; have BK501 := n3_; have BK502 := n4_; have BK508 := n5_; have HB := n6_; clear n0_ n1_ n2_ n3_ n4_ n5_ n6_; (try clear hb); (try clear hb2); (try clear hk); (try clear hi)))
     go_meet
     case rel => exact ⟨_, (true), (by first | rfl | (simp; done) | (simp [*]; done)), H', ⟨by first | omega | exact Nat.le_refl _⟩, ⟨by (with_reducible repeat first | apply bN | apply bD | apply bA); exact BK495.out⟩, ⟨by (with_reducible repeat first | apply bN | apply bD | apply bA); exact BK496.out⟩, ⟨by (with_reducible repeat first | apply bN | apply bD | apply bA); exact BK501.out⟩, ⟨by (with_reducible repeat first | apply bN | apply bD | apply bA); exact BK502.out⟩, ⟨by (with_reducible repeat first | apply bN | apply bD | apply bA); exact BK508.out⟩, ⟨by repeat (first | (with_reducible first | exact HB.out | apply below_alloc | apply pw_below_drewN | apply below_drew1 | refine below_set ?_ GE495.out | refine below_set ?_ GE496.out | refine below_set ?_ GE501.out | refine below_set ?_ GE502.out | refine below_set ?_ GE508.out) | exact HB.out)⟩⟩
   ·replace c39 := Bool.eq_false_iff.mpr c39
    subst c39
    have H1 : (netlablaw02_StrengthElements.j0 k true t497 t498 t499 t500 t506 t507) = some r := by rw [if_neg (show ¬ (false = true) by decide)] at H; exact H
    clear H
    have H := H1
    clear H1
    have H' := Aside0.mk H
    clear H
    have hnb126 := NB501_495.out
    have hnc126 := NB495_501.out
    have hnb127 := NB501_496.out
    have hnc127 := NB496_501.out
    have hnb128 := NB501_502.out
    have hnc128 := NB502_501.out
    have hnb129 := NB501_508.out
    have hnc129 := NB508_501.out
    have hcz130_0 : w30.cell? ⟨gb501, 0, none⟩ = some (.int .i8 t497) := (blk_cell BK501.out 0).trans rfl
    have hcz130_1 : w30.cell? ⟨gb501, 1, none⟩ = some (.int .i8 t498) := (blk_cell BK501.out 1).trans rfl
    have hfz130_0 := blk_frozen BK501.out 0
    have hfz130_1 := blk_frozen BK501.out 1
    go_wp2_with (first | ((with_reducible refine gate_callee (f := 27) rfl ?_); refine goesL_ (some 22) rfl rfl Tryd.func27 (by kernel_rfl) rfl #[.agg #[.int .i8 t497, .int .i8 t498]] rfl (by (try simp only [List.map_toArray, List.map_cons, List.map_nil]); first | done | rfl | (simp only [List.length_drop, List.length_take]; rfl)) ?_; (with_reducible refine (strength_Valid.calls t497 t498 true _ A36.out).mono ?_); rintro e w131 ⟨rfl, hb⟩; refine ⟨_, rfl, ?_⟩; have n0_ := Aside0.mk (Kd.R_below (by (with_reducible repeat (first | apply Kd.R_alloc | apply Kd.R_drewN | apply Kd.R_drew)); exact (Kd.R_mono (Kd.R_far (p := ⟨gb508, 1, none⟩) (Kd.R_far (p := ⟨gb508, 0, none⟩) (Kd.R_mono HO505.out (fun k_ hk => (⟨hk, hk.2⟩ : _ ∧ k_ ≠ gb508))) (fun _ hk => hk.2) (.int .i8 t506)) (fun _ hk => hk.2) (.int .i8 t507)) (fun _ h_ => h_.1))) hb); have n1_ := Aside0.mk (blk_below (g := gb495) (o := .cells #[.int .i8 a0_0, .int .i8 a0_1] 35 (0, 0)) (by (with_reducible repeat first | apply bN | apply bD | apply bA); refine blk_far ?_ NB495_508.out _; (with_reducible repeat first | apply bN | apply bD | apply bA); refine blk_far ?_ NB495_508.out _; (with_reducible repeat first | apply bN | apply bD | apply bA); exact BK495.out) hb); have n2_ := Aside0.mk (blk_below (g := gb496) (o := .cells #[.int .i8 a1_0, .int .i8 a1_1] 35 (0, 0)) (by (with_reducible repeat first | apply bN | apply bD | apply bA); refine blk_far ?_ NB496_508.out _; (with_reducible repeat first | apply bN | apply bD | apply bA); refine blk_far ?_ NB496_508.out _; (with_reducible repeat first | apply bN | apply bD | apply bA); exact BK496.out) hb); have n3_ := Aside0.mk (blk_below (g := gb501) (o := .cells #[.int .i8 t497, .int .i8 t498] 26 (0, 0)) (by (with_reducible repeat first | apply bN | apply bD | apply bA); refine blk_far ?_ NB501_508.out _; (with_reducible repeat first | apply bN | apply bD | apply bA); refine blk_far ?_ NB501_508.out _; (with_reducible repeat first | apply bN | apply bD | apply bA); exact BK501.out) hb); have n4_ := Aside0.mk (blk_below (g := gb502) (o := .cells #[.int .i8 t499, .int .i8 t500] 26 (0, 0)) (by (with_reducible repeat first | apply bN | apply bD | apply bA); refine blk_far ?_ NB502_508.out _; (with_reducible repeat first | apply bN | apply bD | apply bA); refine blk_far ?_ NB502_508.out _; (with_reducible repeat first | apply bN | apply bD | apply bA); exact BK502.out) hb); have n5_ := Aside0.mk (blk_below (g := gb508) (o := .cells #[.int .i8 t506, .int .i8 t507] 26 (0, 0)) (by (with_reducible repeat first | apply bN | apply bD | apply bA); refine blk_put (cs := #[.int .i8 t506, .int .i8 0]) ?_ 1 _ rfl; (with_reducible repeat first | apply bN | apply bD | apply bA); refine blk_put (cs := #[.int .i8 0, .int .i8 0]) ?_ 0 _ rfl; (with_reducible repeat first | apply bN | apply bD | apply bA); exact BK508.out) hb); have n6_ := Aside0.mk (below_step (by repeat (first | (with_reducible first | exact HB.out | apply below_alloc | apply pw_below_drewN | apply below_drew1 | refine below_set ?_ GE495.out | refine below_set ?_ GE496.out | refine below_set ?_ GE501.out | refine below_set ?_ GE502.out | refine below_set ?_ GE508.out) | exact HB.out)) hb); clear HO505; clear BK495; clear BK496; clear BK501; clear BK502; clear BK508; clear HB; have HO505 := n0_; have BK495 := n1_; have BK496 := n2_; have BK501 := n3_; have BK502 := n4_; have BK508 := n5_; have HB := n6_; clear n0_ n1_ n2_ n3_ n4_ n5_ n6_; (try clear hb); (try clear hb2); (try clear hk); (try clear hi); have hnb132 := NB502_495.out; have hnc132 := NB495_502.out; have hnb133 := NB502_496.out; have hnc133 := NB496_502.out; have hnb134 := NB502_508.out; have hnc134 := NB508_502.out; have hcz135_0 : w131.cell? ⟨gb502, 0, none⟩ = some (.int .i8 t499) := (blk_cell BK502.out 0).trans rfl; have hcz135_1 : w131.cell? ⟨gb502, 1, none⟩ = some (.int .i8 t500) := (blk_cell BK502.out 1).trans rfl; have hfz135_0 := blk_frozen BK502.out 0; have hfz135_1 := blk_frozen BK502.out 1) | (go_at_call 27; (with_reducible refine (strength_Valid.calls t499 t500 false _ A38.out).mono ?_); rintro e w136 ⟨rfl, hb⟩; have n0_ := Aside0.mk (Kd.R_below (by (with_reducible repeat (first | apply Kd.R_alloc | apply Kd.R_drewN | apply Kd.R_drew)); exact HO505.out) hb); have n1_ := Aside0.mk (blk_below (g := gb495) (o := .cells #[.int .i8 a0_0, .int .i8 a0_1] 35 (0, 0)) (by (with_reducible repeat first | apply bN | apply bD | apply bA); exact BK495.out) hb); have n2_ := Aside0.mk (blk_below (g := gb496) (o := .cells #[.int .i8 a1_0, .int .i8 a1_1] 35 (0, 0)) (by (with_reducible repeat first | apply bN | apply bD | apply bA); exact BK496.out) hb); have n3_ := Aside0.mk (blk_below (g := gb501) (o := .cells #[.int .i8 t497, .int .i8 t498] 26 (0, 0)) (by (with_reducible repeat first | apply bN | apply bD | apply bA); exact BK501.out) hb); have n4_ := Aside0.mk (blk_below (g := gb502) (o := .cells #[.int .i8 t499, .int .i8 t500] 26 (0, 0)) (by (with_reducible repeat first | apply bN | apply bD | apply bA); exact BK502.out) hb); have n5_ := Aside0.mk (blk_below (g := gb508) (o := .cells #[.int .i8 t506, .int .i8 t507] 26 (0, 0)) (by (with_reducible repeat first | apply bN | apply bD | apply bA); exact BK508.out) hb); have n6_ := Aside0.mk (below_step (by repeat (first | (with_reducible first | exact HB.out | apply below_alloc | apply pw_below_drewN | apply below_drew1 | refine below_set ?_ GE495.out | refine below_set ?_ GE496.out | refine below_set ?_ GE501.out | refine below_set ?_ GE502.out | refine below_set ?_ GE508.out) | exact HB.out)) hb); clear HO505; clear BK495; clear BK496; clear BK501; clear BK502; clear BK508; clear HB; have HO505 := n0_; have BK495 := n1_; have BK496 := n2_; have BK501 := n3_; have BK502 := n4_; have BK508 := n5_; have HB := n6_; clear n0_ n1_ n2_ n3_ n4_ n5_ n6_; (try clear hb); (try clear hb2); (try clear hk); (try clear hi)))
    go_meet
    case rel => exact ⟨_, (true), (by first | rfl | (simp; done) | (simp [*]; done)), H', ⟨by first | omega | exact Nat.le_refl _⟩, ⟨by (with_reducible repeat first | apply bN | apply bD | apply bA); exact BK495.out⟩, ⟨by (with_reducible repeat first | apply bN | apply bD | apply bA); exact BK496.out⟩, ⟨by (with_reducible repeat first | apply bN | apply bD | apply bA); exact BK501.out⟩, ⟨by (with_reducible repeat first | apply bN | apply bD | apply bA); exact BK502.out⟩, ⟨by (with_reducible repeat first | apply bN | apply bD | apply bA); exact BK508.out⟩, ⟨by repeat (first | (with_reducible first | exact HB.out | apply below_alloc | apply pw_below_drewN | apply below_drew1 | refine below_set ?_ GE495.out | refine below_set ?_ GE496.out | refine below_set ?_ GE501.out | refine below_set ?_ GE502.out | refine below_set ?_ GE508.out) | exact HB.out)⟩⟩
  ·replace c37 := Bool.eq_false_iff.mpr c37
   subst c37
   have H1 : (netlablaw02_StrengthElements.j0 k true t497 t498 t499 t500 t506 t507) = some r := by rw [if_neg (show ¬ (false = true) by decide)] at H; exact H
   clear H
   have H := H1
   clear H1
   have H' := Aside0.mk H
   clear H
   have hnb137 := NB501_495.out
   have hnc137 := NB495_501.out
   have hnb138 := NB501_496.out
   have hnc138 := NB496_501.out
   have hnb139 := NB501_502.out
   have hnc139 := NB502_501.out
   have hnb140 := NB501_508.out
   have hnc140 := NB508_501.out
   have hcz141_0 : w30.cell? ⟨gb501, 0, none⟩ = some (.int .i8 t497) := (blk_cell BK501.out 0).trans rfl
   have hcz141_1 : w30.cell? ⟨gb501, 1, none⟩ = some (.int .i8 t498) := (blk_cell BK501.out 1).trans rfl
   have hfz141_0 := blk_frozen BK501.out 0
   have hfz141_1 := blk_frozen BK501.out 1
   go_wp2_with (first | ((with_reducible refine gate_callee (f := 27) rfl ?_); refine goesL_ (some 22) rfl rfl Tryd.func27 (by kernel_rfl) rfl #[.agg #[.int .i8 t497, .int .i8 t498]] rfl (by (try simp only [List.map_toArray, List.map_cons, List.map_nil]); first | done | rfl | (simp only [List.length_drop, List.length_take]; rfl)) ?_; (with_reducible refine (strength_Valid.calls t497 t498 false _ A36.out).mono ?_); rintro e w142 ⟨rfl, hb⟩; refine ⟨_, rfl, ?_⟩; have n0_ := Aside0.mk (Kd.R_below (by (with_reducible repeat (first | apply Kd.R_alloc | apply Kd.R_drewN | apply Kd.R_drew)); exact (Kd.R_mono (Kd.R_far (p := ⟨gb508, 1, none⟩) (Kd.R_far (p := ⟨gb508, 0, none⟩) (Kd.R_mono HO505.out (fun k_ hk => (⟨hk, hk.2⟩ : _ ∧ k_ ≠ gb508))) (fun _ hk => hk.2) (.int .i8 t506)) (fun _ hk => hk.2) (.int .i8 t507)) (fun _ h_ => h_.1))) hb); have n1_ := Aside0.mk (blk_below (g := gb495) (o := .cells #[.int .i8 a0_0, .int .i8 a0_1] 35 (0, 0)) (by (with_reducible repeat first | apply bN | apply bD | apply bA); refine blk_far ?_ NB495_508.out _; (with_reducible repeat first | apply bN | apply bD | apply bA); refine blk_far ?_ NB495_508.out _; (with_reducible repeat first | apply bN | apply bD | apply bA); exact BK495.out) hb); have n2_ := Aside0.mk (blk_below (g := gb496) (o := .cells #[.int .i8 a1_0, .int .i8 a1_1] 35 (0, 0)) (by (with_reducible repeat first | apply bN | apply bD | apply bA); refine blk_far ?_ NB496_508.out _; (with_reducible repeat first | apply bN | apply bD | apply bA); refine blk_far ?_ NB496_508.out _; (with_reducible repeat first | apply bN | apply bD | apply bA); exact BK496.out) hb); have n3_ := Aside0.mk (blk_below (g := gb501) (o := .cells #[.int .i8 t497, .int .i8 t498] 26 (0, 0)) (by (with_reducible repeat first | apply bN | apply bD | apply bA); refine blk_far ?_ NB501_508.out _; (with_reducible repeat first | apply bN | apply bD | apply bA); refine blk_far ?_ NB501_508.out _; (with_reducible repeat first | apply bN | apply bD | apply bA); exact BK501.out) hb); have n4_ := Aside0.mk (blk_below (g := gb502) (o := .cells #[.int .i8 t499, .int .i8 t500] 26 (0, 0)) (by (with_reducible repeat first | apply bN | apply bD | apply bA); refine blk_far ?_ NB502_508.out _; (with_reducible repeat first | apply bN | apply bD | apply bA); refine blk_far ?_ NB502_508.out _; (with_reducible repeat first | apply bN | apply bD | apply bA); exact BK502.out) hb); have n5_ := Aside0.mk (blk_below (g := gb508) (o := .cells #[.int .i8 t506, .int .i8 t507] 26 (0, 0)) (by (with_reducible repeat first | apply bN | apply bD | apply bA); refine blk_put (cs := #[.int .i8 t506, .int .i8 0]) ?_ 1 _ rfl; (with_reducible repeat first | apply bN | apply bD | apply bA); refine blk_put (cs := #[.int .i8 0, .int .i8 0]) ?_ 0 _ rfl; (with_reducible repeat first | apply bN | apply bD | apply bA); exact BK508.out) hb); have n6_ := Aside0.mk (below_step (by repeat (first | (with_reducible first | exact HB.out | apply below_alloc | apply pw_below_drewN | apply below_drew1 | refine below_set ?_ GE495.out | refine below_set ?_ GE496.out | refine below_set ?_ GE501.out | refine below_set ?_ GE502.out | refine below_set ?_ GE508.out) | exact HB.out)) hb); clear HO505; clear BK495; clear BK496; clear BK501; clear BK502; clear BK508; clear HB; have HO505 := n0_; have BK495 := n1_; have BK496 := n2_; have BK501 := n3_; have BK502 := n4_; have BK508 := n5_; have HB := n6_; clear n0_ n1_ n2_ n3_ n4_ n5_ n6_; (try clear hb); (try clear hb2); (try clear hk); (try clear hi)))
   go_meet
   case rel => exact ⟨_, (true), (by first | rfl | (simp; done) | (simp [*]; done)), H', ⟨by first | omega | exact Nat.le_refl _⟩, ⟨by (with_reducible repeat first | apply bN | apply bD | apply bA); exact BK495.out⟩, ⟨by (with_reducible repeat first | apply bN | apply bD | apply bA); exact BK496.out⟩, ⟨by (with_reducible repeat first | apply bN | apply bD | apply bA); exact BK501.out⟩, ⟨by (with_reducible repeat first | apply bN | apply bD | apply bA); exact BK502.out⟩, ⟨by (with_reducible repeat first | apply bN | apply bD | apply bA); exact BK508.out⟩, ⟨by repeat (first | (with_reducible first | exact HB.out | apply below_alloc | apply pw_below_drewN | apply below_drew1 | refine below_set ?_ GE495.out | refine below_set ?_ GE496.out | refine below_set ?_ GE501.out | refine below_set ?_ GE502.out | refine below_set ?_ GE508.out) | exact HB.out)⟩⟩
 case rest =>
  clear HC6
  try clear c1
  try clear c2
  try clear p2
  try clear c3
  try clear c4
  try clear c5
  try clear c6
  try clear c7
  try clear c8
  try clear c9
  try clear c10
  try clear c11
  try clear c12
  try clear c13
  try clear c14
  try clear c19
  try clear c20
  try clear c21
  try clear c22
  try clear c23
  try clear c24
  try clear c27
  try clear c31
  try clear c32
  try clear c33
  try clear c34
  try clear c37
  try clear c39
  try clear c41
  try clear c42
  try clear c42b0
  try clear c43
  try clear c44
  try clear c45
  try clear c46
  try clear c49
  try clear c50
  try clear c51
  try clear c54
  try clear c55
  try clear c59
  try clear c59b0
  try clear c60
  try clear c61
  try clear c62
  try clear c63
  try clear c66
  try clear c67
  try clear c68
  try clear c71
  try clear c72
  try clear c76
  try clear c76b0
  try clear c77
  try clear c78
  try clear c79
  try clear c80
  try clear c83
  try clear c84
  try clear c85
  try clear c88
  try clear c89
  try clear c94
  try clear c95
  try clear c96
  try clear c97
  try clear c100
  try clear c101
  try clear c102
  try clear c105
  try clear c106
  try clear c111
  try clear c112
  try clear c113
  try clear c114
  try clear c117
  try clear c118
  try clear c119
  try clear c122
  try clear c123
  try clear c126
  try clear c127
  try clear c128
  try clear c129
  try clear c132
  try clear c133
  try clear c134
  try clear c137
  try clear c138
  try clear c139
  try clear c140
  try clear hcz103_0
  try clear hcz103_1
  try clear hcz107_0
  try clear hcz107_1
  try clear hcz109_0
  try clear hcz109_1
  try clear hcz110_0
  try clear hcz110_1
  try clear hcz115_0
  try clear hcz115_1
  try clear hcz120_0
  try clear hcz120_1
  try clear hcz124_0
  try clear hcz124_1
  try clear hcz130_0
  try clear hcz130_1
  try clear hcz135_0
  try clear hcz135_1
  try clear hcz141_0
  try clear hcz141_1
  try clear hcz22_0
  try clear hcz22_1
  try clear hcz25_0
  try clear hcz25_1
  try clear hcz35_0
  try clear hcz35_1
  try clear hcz47_0
  try clear hcz47_1
  try clear hcz52_0
  try clear hcz52_1
  try clear hcz56_0
  try clear hcz56_1
  try clear hcz58_0
  try clear hcz58_1
  try clear hcz64_0
  try clear hcz64_1
  try clear hcz69_0
  try clear hcz69_1
  try clear hcz73_0
  try clear hcz73_1
  try clear hcz75_0
  try clear hcz75_1
  try clear hcz81_0
  try clear hcz81_1
  try clear hcz86_0
  try clear hcz86_1
  try clear hcz90_0
  try clear hcz90_1
  try clear hcz92_0
  try clear hcz92_1
  try clear hcz93_0
  try clear hcz93_1
  try clear hcz98_0
  try clear hcz98_1
  try clear hfz103_0
  try clear hfz103_1
  try clear hfz107_0
  try clear hfz107_1
  try clear hfz109_0
  try clear hfz109_1
  try clear hfz110_0
  try clear hfz110_1
  try clear hfz115_0
  try clear hfz115_1
  try clear hfz120_0
  try clear hfz120_1
  try clear hfz124_0
  try clear hfz124_1
  try clear hfz130_0
  try clear hfz130_1
  try clear hfz135_0
  try clear hfz135_1
  try clear hfz141_0
  try clear hfz141_1
  try clear hfz22_0
  try clear hfz22_1
  try clear hfz25_0
  try clear hfz25_1
  try clear hfz35_0
  try clear hfz35_1
  try clear hfz47_0
  try clear hfz47_1
  try clear hfz52_0
  try clear hfz52_1
  try clear hfz56_0
  try clear hfz56_1
  try clear hfz58_0
  try clear hfz58_1
  try clear hfz64_0
  try clear hfz64_1
  try clear hfz69_0
  try clear hfz69_1
  try clear hfz73_0
  try clear hfz73_1
  try clear hfz75_0
  try clear hfz75_1
  try clear hfz81_0
  try clear hfz81_1
  try clear hfz86_0
  try clear hfz86_1
  try clear hfz90_0
  try clear hfz90_1
  try clear hfz92_0
  try clear hfz92_1
  try clear hfz93_0
  try clear hfz93_1
  try clear hfz98_0
  try clear hfz98_1
  obtain ⟨kq, x53_5, rfl, HA, HJ5, BK495, BK496, BK501, BK502, BK508, HB⟩ := hcut
  cases kq with
  | zero => exact absurd HA.out (by simp [netlablaw02_StrengthElements.j0])
  | succ kj5 =>
   have H := HA.out
   clear HA
   simp only [netlablaw02_StrengthElements.j0] at H
   by_cases c143 : x53_5 = true
   ·subst c143
    have H1 : (none) = some r := by rw [if_pos rfl] at H; exact H
    clear H
    have H := H1
    clear H1
    exact absurd H (by simp)
   ·replace c143 := Bool.eq_false_iff.mpr c143
    subst c143
    have H1 : (netlablaw02_StrengthElements.l0 kj5 (-7) t497 t498 t499 t500 t506 t507) = some r := by rw [if_neg (show ¬ (false = true) by decide)] at H; exact H
    clear H
    have H := H1
    clear H1
    have H' := Aside0.mk H
    clear H
    go_wp2
    go_loopg [8] kj5 (fun kq v8 w' => ∃ (x8_2 : Int), v8 = .int .i8 x8_2 ∧ Aside0 (netlablaw02_StrengthElements.l0 kq x8_2 t497 t498 t499 t500 t506 t507 = some r) ∧ Aside0 (kq ≤ kj5) ∧ Aside0 (w'.heap[gb495]? = some (.cells #[.int .i8 a0_0, .int .i8 a0_1] 35 (0, 0))) ∧ Aside0 (w'.heap[gb496]? = some (.cells #[.int .i8 a1_0, .int .i8 a1_1] 35 (0, 0))) ∧ Aside0 (w'.heap[gb501]? = some (.cells #[.int .i8 t497, .int .i8 t498] 26 (0, 0))) ∧ Aside0 (w'.heap[gb502]? = some (.cells #[.int .i8 t499, .int .i8 t500] 26 (0, 0))) ∧ Aside0 (w'.heap[gb508]? = some (.cells #[.int .i8 t506, .int .i8 t507] 26 (0, 0))) ∧ Aside0 (Below w.heap.size w w'))
    case atStart => exact ⟨((-7)), (by first | rfl | (simp; done) | (simp [*]; done)), H', ⟨Nat.le_refl _⟩, ⟨by (with_reducible repeat first | apply bN | apply bD | apply bA); exact BK495.out⟩, ⟨by (with_reducible repeat first | apply bN | apply bD | apply bA); exact BK496.out⟩, ⟨by (with_reducible repeat first | apply bN | apply bD | apply bA); exact BK501.out⟩, ⟨by (with_reducible repeat first | apply bN | apply bD | apply bA); exact BK502.out⟩, ⟨by (with_reducible repeat first | apply bN | apply bD | apply bA); exact BK508.out⟩, ⟨by repeat (first | (with_reducible first | exact HB.out | apply below_alloc | apply pw_below_drewN | apply below_drew1 | refine below_set ?_ GE495.out | refine below_set ?_ GE496.out | refine below_set ?_ GE501.out | refine below_set ?_ GE502.out | refine below_set ?_ GE508.out) | exact HB.out)⟩⟩
    case round =>
     clear H'
     try clear c1
     try clear c2
     try clear p2
     try clear c3
     try clear c4
     try clear c5
     try clear c6
     try clear c7
     try clear c8
     try clear c9
     try clear c10
     try clear c11
     try clear c12
     try clear c13
     try clear c14
     try clear c19
     try clear c20
     try clear c21
     try clear c22
     try clear c23
     try clear c24
     try clear c27
     try clear c31
     try clear c32
     try clear c33
     try clear c34
     try clear c37
     try clear c39
     try clear c41
     try clear c42
     try clear c42b0
     try clear c43
     try clear c44
     try clear c45
     try clear c46
     try clear c49
     try clear c50
     try clear c51
     try clear c54
     try clear c55
     try clear c59
     try clear c59b0
     try clear c60
     try clear c61
     try clear c62
     try clear c63
     try clear c66
     try clear c67
     try clear c68
     try clear c71
     try clear c72
     try clear c76
     try clear c76b0
     try clear c77
     try clear c78
     try clear c79
     try clear c80
     try clear c83
     try clear c84
     try clear c85
     try clear c88
     try clear c89
     try clear c94
     try clear c95
     try clear c96
     try clear c97
     try clear c100
     try clear c101
     try clear c102
     try clear c105
     try clear c106
     try clear c111
     try clear c112
     try clear c113
     try clear c114
     try clear c117
     try clear c118
     try clear c119
     try clear c122
     try clear c123
     try clear c126
     try clear c127
     try clear c128
     try clear c129
     try clear c132
     try clear c133
     try clear c134
     try clear c137
     try clear c138
     try clear c139
     try clear c140
     try clear c143
     try clear hcz103_0
     try clear hcz103_1
     try clear hcz107_0
     try clear hcz107_1
     try clear hcz109_0
     try clear hcz109_1
     try clear hcz110_0
     try clear hcz110_1
     try clear hcz115_0
     try clear hcz115_1
     try clear hcz120_0
     try clear hcz120_1
     try clear hcz124_0
     try clear hcz124_1
     try clear hcz130_0
     try clear hcz130_1
     try clear hcz135_0
     try clear hcz135_1
     try clear hcz141_0
     try clear hcz141_1
     try clear hcz22_0
     try clear hcz22_1
     try clear hcz25_0
     try clear hcz25_1
     try clear hcz35_0
     try clear hcz35_1
     try clear hcz47_0
     try clear hcz47_1
     try clear hcz52_0
     try clear hcz52_1
     try clear hcz56_0
     try clear hcz56_1
     try clear hcz58_0
     try clear hcz58_1
     try clear hcz64_0
     try clear hcz64_1
     try clear hcz69_0
     try clear hcz69_1
     try clear hcz73_0
     try clear hcz73_1
     try clear hcz75_0
     try clear hcz75_1
     try clear hcz81_0
     try clear hcz81_1
     try clear hcz86_0
     try clear hcz86_1
     try clear hcz90_0
     try clear hcz90_1
     try clear hcz92_0
     try clear hcz92_1
     try clear hcz93_0
     try clear hcz93_1
     try clear hcz98_0
     try clear hcz98_1
     try clear hfz103_0
     try clear hfz103_1
     try clear hfz107_0
     try clear hfz107_1
     try clear hfz109_0
     try clear hfz109_1
     try clear hfz110_0
     try clear hfz110_1
     try clear hfz115_0
     try clear hfz115_1
     try clear hfz120_0
     try clear hfz120_1
     try clear hfz124_0
     try clear hfz124_1
     try clear hfz130_0
     try clear hfz130_1
     try clear hfz135_0
     try clear hfz135_1
     try clear hfz141_0
     try clear hfz141_1
     try clear hfz22_0
     try clear hfz22_1
     try clear hfz25_0
     try clear hfz25_1
     try clear hfz35_0
     try clear hfz35_1
     try clear hfz47_0
     try clear hfz47_1
     try clear hfz52_0
     try clear hfz52_1
     try clear hfz56_0
     try clear hfz56_1
     try clear hfz58_0
     try clear hfz58_1
     try clear hfz64_0
     try clear hfz64_1
     try clear hfz69_0
     try clear hfz69_1
     try clear hfz73_0
     try clear hfz73_1
     try clear hfz75_0
     try clear hfz75_1
     try clear hfz81_0
     try clear hfz81_1
     try clear hfz86_0
     try clear hfz86_1
     try clear hfz90_0
     try clear hfz90_1
     try clear hfz92_0
     try clear hfz92_1
     try clear hfz93_0
     try clear hfz93_1
     try clear hfz98_0
     try clear hfz98_1
     try clear p2
     obtain ⟨x8_2, rfl, HA, HK2, BK495, BK496, BK501, BK502, BK508, HB⟩ := hrel
     cases gk with
     | zero => exact absurd HA.out (by simp [netlablaw02_StrengthElements.l0])
     | succ k2 =>
      have H := HA.out
      clear HA
      simp only [netlablaw02_StrengthElements.l0] at H
      by_cases c144 : x8_2 ≤ 7
      ·rw [if_pos c144] at H
       have c144b0 : decide (x8_2 ≤ 7) = true := decide_eq_true c144
       clear c144
       have H' := Aside0.mk H
       clear H
       have hnb145 := NB501_495.out
       have hnc145 := NB495_501.out
       have hnb146 := NB501_496.out
       have hnc146 := NB496_501.out
       have hnb147 := NB501_502.out
       have hnc147 := NB502_501.out
       have hnb148 := NB501_508.out
       have hnc148 := NB508_501.out
       have hcz149_0 : wr.cell? ⟨gb501, 0, none⟩ = some (.int .i8 t497) := (blk_cell BK501.out 0).trans rfl
       have hcz149_1 : wr.cell? ⟨gb501, 1, none⟩ = some (.int .i8 t498) := (blk_cell BK501.out 1).trans rfl
       have hfz149_0 := blk_frozen BK501.out 0
       have hfz149_1 := blk_frozen BK501.out 1
       go_wp2
       go_loopg [9, 10] k2 (fun kq v9 v10 w' => ∃ (x9_3 : Bool) (x10_3 : Int), v9 = .bool x9_3 ∧ v10 = .int .i8 x10_3 ∧ Aside0 (netlablaw02_StrengthElements.l1 kq x8_2 x9_3 x10_3 t497 t498 t499 t500 t506 t507 = some r) ∧ Aside0 (kq ≤ k2) ∧ Aside0 (w'.heap[gb495]? = some (.cells #[.int .i8 a0_0, .int .i8 a0_1] 35 (0, 0))) ∧ Aside0 (w'.heap[gb496]? = some (.cells #[.int .i8 a1_0, .int .i8 a1_1] 35 (0, 0))) ∧ Aside0 (w'.heap[gb501]? = some (.cells #[.int .i8 t497, .int .i8 t498] 26 (0, 0))) ∧ Aside0 (w'.heap[gb502]? = some (.cells #[.int .i8 t499, .int .i8 t500] 26 (0, 0))) ∧ Aside0 (w'.heap[gb508]? = some (.cells #[.int .i8 t506, .int .i8 t507] 26 (0, 0))) ∧ Aside0 (Below w.heap.size w w'))
       case atStart => exact ⟨(false), (t497), (by first | rfl | (simp; done) | (simp [*]; done)), (by first | rfl | (simp; done) | (simp [*]; done)), H', ⟨Nat.le_refl _⟩, ⟨by (with_reducible repeat first | apply bN | apply bD | apply bA); exact BK495.out⟩, ⟨by (with_reducible repeat first | apply bN | apply bD | apply bA); exact BK496.out⟩, ⟨by (with_reducible repeat first | apply bN | apply bD | apply bA); exact BK501.out⟩, ⟨by (with_reducible repeat first | apply bN | apply bD | apply bA); exact BK502.out⟩, ⟨by (with_reducible repeat first | apply bN | apply bD | apply bA); exact BK508.out⟩, ⟨by repeat (first | (with_reducible first | exact HB.out | apply below_alloc | apply pw_below_drewN | apply below_drew1 | refine below_set ?_ GE495.out | refine below_set ?_ GE496.out | refine below_set ?_ GE501.out | refine below_set ?_ GE502.out | refine below_set ?_ GE508.out) | exact HB.out)⟩⟩
       case round =>
        clear H'
        try clear c1
        try clear c2
        try clear p2
        try clear c3
        try clear c4
        try clear c5
        try clear c6
        try clear c7
        try clear c8
        try clear c9
        try clear c10
        try clear c11
        try clear c12
        try clear c13
        try clear c14
        try clear c19
        try clear c20
        try clear c21
        try clear c22
        try clear c23
        try clear c24
        try clear c27
        try clear c31
        try clear c32
        try clear c33
        try clear c34
        try clear c37
        try clear c39
        try clear c41
        try clear c42
        try clear c42b0
        try clear c43
        try clear c44
        try clear c45
        try clear c46
        try clear c49
        try clear c50
        try clear c51
        try clear c54
        try clear c55
        try clear c59
        try clear c59b0
        try clear c60
        try clear c61
        try clear c62
        try clear c63
        try clear c66
        try clear c67
        try clear c68
        try clear c71
        try clear c72
        try clear c76
        try clear c76b0
        try clear c77
        try clear c78
        try clear c79
        try clear c80
        try clear c83
        try clear c84
        try clear c85
        try clear c88
        try clear c89
        try clear c94
        try clear c95
        try clear c96
        try clear c97
        try clear c100
        try clear c101
        try clear c102
        try clear c105
        try clear c106
        try clear c111
        try clear c112
        try clear c113
        try clear c114
        try clear c117
        try clear c118
        try clear c119
        try clear c122
        try clear c123
        try clear c126
        try clear c127
        try clear c128
        try clear c129
        try clear c132
        try clear c133
        try clear c134
        try clear c137
        try clear c138
        try clear c139
        try clear c140
        try clear c143
        try clear c144
        try clear c144b0
        try clear c145
        try clear c146
        try clear c147
        try clear c148
        try clear hcz103_0
        try clear hcz103_1
        try clear hcz107_0
        try clear hcz107_1
        try clear hcz109_0
        try clear hcz109_1
        try clear hcz110_0
        try clear hcz110_1
        try clear hcz115_0
        try clear hcz115_1
        try clear hcz120_0
        try clear hcz120_1
        try clear hcz124_0
        try clear hcz124_1
        try clear hcz130_0
        try clear hcz130_1
        try clear hcz135_0
        try clear hcz135_1
        try clear hcz141_0
        try clear hcz141_1
        try clear hcz149_0
        try clear hcz149_1
        try clear hcz22_0
        try clear hcz22_1
        try clear hcz25_0
        try clear hcz25_1
        try clear hcz35_0
        try clear hcz35_1
        try clear hcz47_0
        try clear hcz47_1
        try clear hcz52_0
        try clear hcz52_1
        try clear hcz56_0
        try clear hcz56_1
        try clear hcz58_0
        try clear hcz58_1
        try clear hcz64_0
        try clear hcz64_1
        try clear hcz69_0
        try clear hcz69_1
        try clear hcz73_0
        try clear hcz73_1
        try clear hcz75_0
        try clear hcz75_1
        try clear hcz81_0
        try clear hcz81_1
        try clear hcz86_0
        try clear hcz86_1
        try clear hcz90_0
        try clear hcz90_1
        try clear hcz92_0
        try clear hcz92_1
        try clear hcz93_0
        try clear hcz93_1
        try clear hcz98_0
        try clear hcz98_1
        try clear hfz103_0
        try clear hfz103_1
        try clear hfz107_0
        try clear hfz107_1
        try clear hfz109_0
        try clear hfz109_1
        try clear hfz110_0
        try clear hfz110_1
        try clear hfz115_0
        try clear hfz115_1
        try clear hfz120_0
        try clear hfz120_1
        try clear hfz124_0
        try clear hfz124_1
        try clear hfz130_0
        try clear hfz130_1
        try clear hfz135_0
        try clear hfz135_1
        try clear hfz141_0
        try clear hfz141_1
        try clear hfz149_0
        try clear hfz149_1
        try clear hfz22_0
        try clear hfz22_1
        try clear hfz25_0
        try clear hfz25_1
        try clear hfz35_0
        try clear hfz35_1
        try clear hfz47_0
        try clear hfz47_1
        try clear hfz52_0
        try clear hfz52_1
        try clear hfz56_0
        try clear hfz56_1
        try clear hfz58_0
        try clear hfz58_1
        try clear hfz64_0
        try clear hfz64_1
        try clear hfz69_0
        try clear hfz69_1
        try clear hfz73_0
        try clear hfz73_1
        try clear hfz75_0
        try clear hfz75_1
        try clear hfz81_0
        try clear hfz81_1
        try clear hfz86_0
        try clear hfz86_1
        try clear hfz90_0
        try clear hfz90_1
        try clear hfz92_0
        try clear hfz92_1
        try clear hfz93_0
        try clear hfz93_1
        try clear hfz98_0
        try clear hfz98_1
        try clear p2
        obtain ⟨x9_3, x10_3, rfl, rfl, HA, HK3, BK495, BK496, BK501, BK502, BK508, HB⟩ := hrel
        cases gk with
        | zero => exact absurd HA.out (by simp [netlablaw02_StrengthElements.l1])
        | succ k3 =>
         have H := HA.out
         clear HA
         simp only [netlablaw02_StrengthElements.l1] at H
         by_cases c150 : x10_3 ≤ t498
         ·rw [if_pos c150] at H
          have c150b0 : decide (x10_3 ≤ t498) = true := decide_eq_true c150
          clear c150
          have H' := Aside0.mk H
          clear H
          have hnb151 := NB501_495.out
          have hnc151 := NB495_501.out
          have hnb152 := NB501_496.out
          have hnc152 := NB496_501.out
          have hnb153 := NB501_502.out
          have hnc153 := NB502_501.out
          have hnb154 := NB501_508.out
          have hnc154 := NB508_501.out
          have hcz155_0 : wr.cell? ⟨gb501, 0, none⟩ = some (.int .i8 t497) := (blk_cell BK501.out 0).trans rfl
          have hcz155_1 : wr.cell? ⟨gb501, 1, none⟩ = some (.int .i8 t498) := (blk_cell BK501.out 1).trans rfl
          have hfz155_0 := blk_frozen BK501.out 0
          have hfz155_1 := blk_frozen BK501.out 1
          have hnb156 := NB502_495.out
          have hnc156 := NB495_502.out
          have hnb157 := NB502_496.out
          have hnc157 := NB496_502.out
          have hnb158 := NB502_508.out
          have hnc158 := NB508_502.out
          have hcz159_0 : wr.cell? ⟨gb502, 0, none⟩ = some (.int .i8 t499) := (blk_cell BK502.out 0).trans rfl
          have hcz159_1 : wr.cell? ⟨gb502, 1, none⟩ = some (.int .i8 t500) := (blk_cell BK502.out 1).trans rfl
          have hfz159_0 := blk_frozen BK502.out 0
          have hfz159_1 := blk_frozen BK502.out 1
          go_wp2
          go_loopg [9, 11] k3 (fun kq v9 v11 w' => ∃ (x9_4 : Bool) (x11_4 : Int), v9 = .bool x9_4 ∧ v11 = .int .i8 x11_4 ∧ Aside0 (netlablaw02_StrengthElements.l2 kq x8_2 x9_4 x10_3 x11_4 t497 t498 t499 t500 t506 t507 = some r) ∧ Aside0 (kq ≤ k3) ∧ Aside0 (w'.heap[gb495]? = some (.cells #[.int .i8 a0_0, .int .i8 a0_1] 35 (0, 0))) ∧ Aside0 (w'.heap[gb496]? = some (.cells #[.int .i8 a1_0, .int .i8 a1_1] 35 (0, 0))) ∧ Aside0 (w'.heap[gb501]? = some (.cells #[.int .i8 t497, .int .i8 t498] 26 (0, 0))) ∧ Aside0 (w'.heap[gb502]? = some (.cells #[.int .i8 t499, .int .i8 t500] 26 (0, 0))) ∧ Aside0 (w'.heap[gb508]? = some (.cells #[.int .i8 t506, .int .i8 t507] 26 (0, 0))) ∧ Aside0 (Below w.heap.size w w'))
          case atStart => exact ⟨(x9_3), (t499), (by first | rfl | (simp; done) | (simp [*]; done)), (by first | rfl | (simp; done) | (simp [*]; done)), H', ⟨Nat.le_refl _⟩, ⟨by (with_reducible repeat first | apply bN | apply bD | apply bA); exact BK495.out⟩, ⟨by (with_reducible repeat first | apply bN | apply bD | apply bA); exact BK496.out⟩, ⟨by (with_reducible repeat first | apply bN | apply bD | apply bA); exact BK501.out⟩, ⟨by (with_reducible repeat first | apply bN | apply bD | apply bA); exact BK502.out⟩, ⟨by (with_reducible repeat first | apply bN | apply bD | apply bA); exact BK508.out⟩, ⟨by repeat (first | (with_reducible first | exact HB.out | apply below_alloc | apply pw_below_drewN | apply below_drew1 | refine below_set ?_ GE495.out | refine below_set ?_ GE496.out | refine below_set ?_ GE501.out | refine below_set ?_ GE502.out | refine below_set ?_ GE508.out) | exact HB.out)⟩⟩
          case round =>
           clear H'
           try clear c1
           try clear c2
           try clear p2
           try clear c3
           try clear c4
           try clear c5
           try clear c6
           try clear c7
           try clear c8
           try clear c9
           try clear c10
           try clear c11
           try clear c12
           try clear c13
           try clear c14
           try clear c15
           try clear c19
           try clear c20
           try clear c21
           try clear c22
           try clear c23
           try clear c24
           try clear c27
           try clear c31
           try clear c32
           try clear c33
           try clear c34
           try clear c37
           try clear c39
           try clear c41
           try clear c42
           try clear c42b0
           try clear c43
           try clear c44
           try clear c45
           try clear c46
           try clear c49
           try clear c50
           try clear c51
           try clear c54
           try clear c55
           try clear c59
           try clear c59b0
           try clear c60
           try clear c61
           try clear c62
           try clear c63
           try clear c66
           try clear c67
           try clear c68
           try clear c71
           try clear c72
           try clear c76
           try clear c76b0
           try clear c77
           try clear c78
           try clear c79
           try clear c80
           try clear c83
           try clear c84
           try clear c85
           try clear c88
           try clear c89
           try clear c94
           try clear c95
           try clear c96
           try clear c97
           try clear c100
           try clear c101
           try clear c102
           try clear c105
           try clear c106
           try clear c111
           try clear c112
           try clear c113
           try clear c114
           try clear c117
           try clear c118
           try clear c119
           try clear c122
           try clear c123
           try clear c126
           try clear c127
           try clear c128
           try clear c129
           try clear c132
           try clear c133
           try clear c134
           try clear c137
           try clear c138
           try clear c139
           try clear c140
           try clear c143
           try clear c144
           try clear c144b0
           try clear c145
           try clear c146
           try clear c147
           try clear c148
           try clear c150
           try clear c150b0
           try clear c151
           try clear c152
           try clear c153
           try clear c154
           try clear c156
           try clear c157
           try clear c158
           try clear hcz103_0
           try clear hcz103_1
           try clear hcz107_0
           try clear hcz107_1
           try clear hcz109_0
           try clear hcz109_1
           try clear hcz110_0
           try clear hcz110_1
           try clear hcz115_0
           try clear hcz115_1
           try clear hcz120_0
           try clear hcz120_1
           try clear hcz124_0
           try clear hcz124_1
           try clear hcz130_0
           try clear hcz130_1
           try clear hcz135_0
           try clear hcz135_1
           try clear hcz141_0
           try clear hcz141_1
           try clear hcz149_0
           try clear hcz149_1
           try clear hcz155_0
           try clear hcz155_1
           try clear hcz159_0
           try clear hcz159_1
           try clear hcz22_0
           try clear hcz22_1
           try clear hcz25_0
           try clear hcz25_1
           try clear hcz35_0
           try clear hcz35_1
           try clear hcz47_0
           try clear hcz47_1
           try clear hcz52_0
           try clear hcz52_1
           try clear hcz56_0
           try clear hcz56_1
           try clear hcz58_0
           try clear hcz58_1
           try clear hcz64_0
           try clear hcz64_1
           try clear hcz69_0
           try clear hcz69_1
           try clear hcz73_0
           try clear hcz73_1
           try clear hcz75_0
           try clear hcz75_1
           try clear hcz81_0
           try clear hcz81_1
           try clear hcz86_0
           try clear hcz86_1
           try clear hcz90_0
           try clear hcz90_1
           try clear hcz92_0
           try clear hcz92_1
           try clear hcz93_0
           try clear hcz93_1
           try clear hcz98_0
           try clear hcz98_1
           try clear hfz103_0
           try clear hfz103_1
           try clear hfz107_0
           try clear hfz107_1
           try clear hfz109_0
           try clear hfz109_1
           try clear hfz110_0
           try clear hfz110_1
           try clear hfz115_0
           try clear hfz115_1
           try clear hfz120_0
           try clear hfz120_1
           try clear hfz124_0
           try clear hfz124_1
           try clear hfz130_0
           try clear hfz130_1
           try clear hfz135_0
           try clear hfz135_1
           try clear hfz141_0
           try clear hfz141_1
           try clear hfz149_0
           try clear hfz149_1
           try clear hfz155_0
           try clear hfz155_1
           try clear hfz159_0
           try clear hfz159_1
           try clear hfz22_0
           try clear hfz22_1
           try clear hfz25_0
           try clear hfz25_1
           try clear hfz35_0
           try clear hfz35_1
           try clear hfz47_0
           try clear hfz47_1
           try clear hfz52_0
           try clear hfz52_1
           try clear hfz56_0
           try clear hfz56_1
           try clear hfz58_0
           try clear hfz58_1
           try clear hfz64_0
           try clear hfz64_1
           try clear hfz69_0
           try clear hfz69_1
           try clear hfz73_0
           try clear hfz73_1
           try clear hfz75_0
           try clear hfz75_1
           try clear hfz81_0
           try clear hfz81_1
           try clear hfz86_0
           try clear hfz86_1
           try clear hfz90_0
           try clear hfz90_1
           try clear hfz92_0
           try clear hfz92_1
           try clear hfz93_0
           try clear hfz93_1
           try clear hfz98_0
           try clear hfz98_1
           try clear p2
           obtain ⟨x9_4, x11_4, rfl, rfl, HA, HK4, BK495, BK496, BK501, BK502, BK508, HB⟩ := hrel
           cases gk with
           | zero => exact absurd HA.out (by simp [netlablaw02_StrengthElements.l2])
           | succ k4 =>
            have H := HA.out
            clear HA
            simp only [netlablaw02_StrengthElements.l2] at H
            by_cases c160 : x11_4 ≤ t500
            ·rw [if_pos c160] at H
             have c160b0 : decide (x11_4 ≤ t500) = true := decide_eq_true c160
             clear c160
             replace H := Option.bind_eq_some_iff.mp H
             obtain ⟨t514, A1610, H⟩ := H
             replace H : (if x9_4 = true then (netlablaw02_StrengthElements.l2 k4 x8_2 true x10_3 (IntKind.i8.wrap (x11_4 + 1)) t497 t498 t499 t500 t506 t507) else (if 0 < (t514.length : Int) then (if (rd t514 0) ≤ x8_2 then (if 0 ≤ (wrap64 ((t514.length : Int) - 1)) then (if (wrap64 ((t514.length : Int) - 1)) < (t514.length : Int) then (netlablaw02_StrengthElements.l2 k4 x8_2 (decide (x8_2 ≤ (rd t514 (wrap64 ((t514.length : Int) - 1))))) x10_3 (IntKind.i8.wrap (x11_4 + 1)) t497 t498 t499 t500 t506 t507) else (none)) else (none)) else (netlablaw02_StrengthElements.l2 k4 x8_2 false x10_3 (IntKind.i8.wrap (x11_4 + 1)) t497 t498 t499 t500 t506 t507)) else (none))) = some r := H
             have A161 := Aside0.mk A1610
             clear A1610
             by_cases c162 : x9_4 = true
             ·subst c162
              have H1 : (netlablaw02_StrengthElements.l2 k4 x8_2 true x10_3 (IntKind.i8.wrap (x11_4 + 1)) t497 t498 t499 t500 t506 t507) = some r := by rw [if_pos rfl] at H; exact H
              clear H
              have H := H1
              clear H1
              have H' := Aside0.mk H
              clear H
              have hnb163 := NB502_495.out
              have hnc163 := NB495_502.out
              have hnb164 := NB502_496.out
              have hnc164 := NB496_502.out
              have hnb165 := NB502_501.out
              have hnc165 := NB501_502.out
              have hnb166 := NB502_508.out
              have hnc166 := NB508_502.out
              have hcz167_0 : wr.cell? ⟨gb502, 0, none⟩ = some (.int .i8 t499) := (blk_cell BK502.out 0).trans rfl
              have hcz167_1 : wr.cell? ⟨gb502, 1, none⟩ = some (.int .i8 t500) := (blk_cell BK502.out 1).trans rfl
              have hfz167_0 := blk_frozen BK502.out 0
              have hfz167_1 := blk_frozen BK502.out 1
              go_wp2_with (first | ((with_reducible refine gate_callee (f := 32) rfl ?_); refine goesL_ (some 76) rfl rfl Tryd.func32 (by kernel_rfl) rfl #[.int .i8 x10_3, .int .i8 x11_4] rfl (by (try simp only [List.map_toArray, List.map_cons, List.map_nil]); first | done | rfl | (simp only [List.length_drop, List.length_take]; rfl)) ?_; (with_reducible refine (netlabref02_Levels.calls k4 x10_3 x11_4 t514 _ A161.out).mono ?_); rintro e w168 ⟨v515, rfl, ho0, hb⟩; refine ⟨_, rfl, ?_⟩; have n0_ := Aside0.mk (Kd.R_lower ho0 (below_size (by repeat (first | (with_reducible first | exact HB.out | apply below_alloc | apply pw_below_drewN | apply below_drew1 | refine below_set ?_ GE495.out | refine below_set ?_ GE496.out | refine below_set ?_ GE501.out | refine below_set ?_ GE502.out | refine below_set ?_ GE508.out) | exact HB.out)))); have n1_ := Aside0.mk (blk_below (g := gb495) (o := .cells #[.int .i8 a0_0, .int .i8 a0_1] 35 (0, 0)) (by (with_reducible repeat first | apply bN | apply bD | apply bA); exact BK495.out) hb); have n2_ := Aside0.mk (blk_below (g := gb496) (o := .cells #[.int .i8 a1_0, .int .i8 a1_1] 35 (0, 0)) (by (with_reducible repeat first | apply bN | apply bD | apply bA); exact BK496.out) hb); have n3_ := Aside0.mk (blk_below (g := gb501) (o := .cells #[.int .i8 t497, .int .i8 t498] 26 (0, 0)) (by (with_reducible repeat first | apply bN | apply bD | apply bA); exact BK501.out) hb); have n4_ := Aside0.mk (blk_below (g := gb502) (o := .cells #[.int .i8 t499, .int .i8 t500] 26 (0, 0)) (by (with_reducible repeat first | apply bN | apply bD | apply bA); exact BK502.out) hb); have n5_ := Aside0.mk (blk_below (g := gb508) (o := .cells #[.int .i8 t506, .int .i8 t507] 26 (0, 0)) (by (with_reducible repeat first | apply bN | apply bD | apply bA); exact BK508.out) hb); have n6_ := Aside0.mk (below_step (by repeat (first | (with_reducible first | exact HB.out | apply below_alloc | apply pw_below_drewN | apply below_drew1 | refine below_set ?_ GE495.out | refine below_set ?_ GE496.out | refine below_set ?_ GE501.out | refine below_set ?_ GE502.out | refine below_set ?_ GE508.out) | exact HB.out)) hb); clear BK495; clear BK496; clear BK501; clear BK502; clear BK508; clear HB; have HO516 := n0_; have BK495 := n1_; have BK496 := n2_; have BK501 := n3_; have BK502 := n4_; have BK508 := n5_; have HB := n6_; clear n0_ n1_ n2_ n3_ n4_ n5_ n6_; (try clear hb); (try clear hb2); (try clear hk); (try clear hi); (try clear ho0)))
              go_roundg k4
              case measure => have := HJ5.out; have := HK2.out; have := HK3.out; have := HK4.out; omega
              case rel => exact ⟨(true), (IntKind.i8.wrap (x11_4 + 1)), (by first | rfl | (simp; done) | (simp [*]; done)), (by first | rfl | (simp; done) | (simp [*]; done)), H', ⟨by have := HJ5.out; have := HK2.out; have := HK3.out; have := HK4.out; omega⟩, ⟨by (with_reducible repeat first | apply bN | apply bD | apply bA); exact BK495.out⟩, ⟨by (with_reducible repeat first | apply bN | apply bD | apply bA); exact BK496.out⟩, ⟨by (with_reducible repeat first | apply bN | apply bD | apply bA); exact BK501.out⟩, ⟨by (with_reducible repeat first | apply bN | apply bD | apply bA); exact BK502.out⟩, ⟨by (with_reducible repeat first | apply bN | apply bD | apply bA); exact BK508.out⟩, ⟨by repeat (first | (with_reducible first | exact HB.out | apply below_alloc | apply pw_below_drewN | apply below_drew1 | refine below_set ?_ GE495.out | refine below_set ?_ GE496.out | refine below_set ?_ GE501.out | refine below_set ?_ GE502.out | refine below_set ?_ GE508.out) | exact HB.out)⟩⟩
             ·replace c162 := Bool.eq_false_iff.mpr c162
              subst c162
              have H1 : (if 0 < (t514.length : Int) then (if (rd t514 0) ≤ x8_2 then (if 0 ≤ (wrap64 ((t514.length : Int) - 1)) then (if (wrap64 ((t514.length : Int) - 1)) < (t514.length : Int) then (netlablaw02_StrengthElements.l2 k4 x8_2 (decide (x8_2 ≤ (rd t514 (wrap64 ((t514.length : Int) - 1))))) x10_3 (IntKind.i8.wrap (x11_4 + 1)) t497 t498 t499 t500 t506 t507) else (none)) else (none)) else (netlablaw02_StrengthElements.l2 k4 x8_2 false x10_3 (IntKind.i8.wrap (x11_4 + 1)) t497 t498 t499 t500 t506 t507)) else (none)) = some r := by rw [if_neg (show ¬ (false = true) by decide)] at H; exact H
              clear H
              have H := H1
              clear H1
              by_cases c169 : 0 < (t514.length : Int)
              ·rw [if_pos c169] at H
               have c169b0 : decide (0 < (t514.length : Int)) = true := decide_eq_true c169
               have c169b1 : decide (0 < t514.length) = true := decide_eq_true (by omega)
               clear c169
               by_cases c170 : (rd t514 0) ≤ x8_2
               ·rw [if_pos c170] at H
                have c170b0 : decide ((rd t514 0) ≤ x8_2) = true := decide_eq_true c170
                clear c170
                obtain ⟨ji171, hji171⟩ : ∃ j_ : Int, (wrap64 ((t514.length : Int) - 1)) = j_ := ⟨_, rfl⟩
                replace H : (if 0 ≤ (ji171) then (if (ji171) < (t514.length : Int) then (netlablaw02_StrengthElements.l2 k4 x8_2 (decide (x8_2 ≤ (rd t514 (ji171)))) x10_3 (IntKind.i8.wrap (x11_4 + 1)) t497 t498 t499 t500 t506 t507) else (none)) else (none)) = some r := by first | (rw [hji171] at H; exact H) | (simp only [hji171] at H ⊢; exact H)
                (try rw [hji171] at A161)
                have hji171w : (IntKind.i64.wrap ((t514.length : Int) - 1)) = ji171 := (i64_w _).trans hji171
                by_cases c172 : 0 ≤ (ji171)
                ·rw [if_pos c172] at H
                 have c172b0 : decide (0 ≤ (ji171)) = true := decide_eq_true c172
                 clear c172
                 by_cases c173 : (ji171) < (t514.length : Int)
                 ·rw [if_pos c173] at H
                  have c173b0 : decide ((ji171) < (t514.length : Int)) = true := decide_eq_true c173
                  clear c173
                  have H' := Aside0.mk H
                  clear H
                  have hnb174 := NB502_495.out
                  have hnc174 := NB495_502.out
                  have hnb175 := NB502_496.out
                  have hnc175 := NB496_502.out
                  have hnb176 := NB502_501.out
                  have hnc176 := NB501_502.out
                  have hnb177 := NB502_508.out
                  have hnc177 := NB508_502.out
                  have hcz178_0 : wr.cell? ⟨gb502, 0, none⟩ = some (.int .i8 t499) := (blk_cell BK502.out 0).trans rfl
                  have hcz178_1 : wr.cell? ⟨gb502, 1, none⟩ = some (.int .i8 t500) := (blk_cell BK502.out 1).trans rfl
                  have hfz178_0 := blk_frozen BK502.out 0
                  have hfz178_1 := blk_frozen BK502.out 1
                  go_wp2_with (first | ((with_reducible refine gate_callee (f := 32) rfl ?_); refine goesL_ (some 76) rfl rfl Tryd.func32 (by kernel_rfl) rfl #[.int .i8 x10_3, .int .i8 x11_4] rfl (by (try simp only [List.map_toArray, List.map_cons, List.map_nil]); first | done | rfl | (simp only [List.length_drop, List.length_take]; rfl)) ?_; (with_reducible refine (netlabref02_Levels.calls k4 x10_3 x11_4 t514 _ A161.out).mono ?_); rintro e w179 ⟨v515, rfl, ho0, hb⟩; refine ⟨_, rfl, ?_⟩; have n0_ := Aside0.mk (Kd.R_lower ho0 (below_size (by repeat (first | (with_reducible first | exact HB.out | apply below_alloc | apply pw_below_drewN | apply below_drew1 | refine below_set ?_ GE495.out | refine below_set ?_ GE496.out | refine below_set ?_ GE501.out | refine below_set ?_ GE502.out | refine below_set ?_ GE508.out) | exact HB.out)))); have n1_ := Aside0.mk (blk_below (g := gb495) (o := .cells #[.int .i8 a0_0, .int .i8 a0_1] 35 (0, 0)) (by (with_reducible repeat first | apply bN | apply bD | apply bA); exact BK495.out) hb); have n2_ := Aside0.mk (blk_below (g := gb496) (o := .cells #[.int .i8 a1_0, .int .i8 a1_1] 35 (0, 0)) (by (with_reducible repeat first | apply bN | apply bD | apply bA); exact BK496.out) hb); have n3_ := Aside0.mk (blk_below (g := gb501) (o := .cells #[.int .i8 t497, .int .i8 t498] 26 (0, 0)) (by (with_reducible repeat first | apply bN | apply bD | apply bA); exact BK501.out) hb); have n4_ := Aside0.mk (blk_below (g := gb502) (o := .cells #[.int .i8 t499, .int .i8 t500] 26 (0, 0)) (by (with_reducible repeat first | apply bN | apply bD | apply bA); exact BK502.out) hb); have n5_ := Aside0.mk (blk_below (g := gb508) (o := .cells #[.int .i8 t506, .int .i8 t507] 26 (0, 0)) (by (with_reducible repeat first | apply bN | apply bD | apply bA); exact BK508.out) hb); have n6_ := Aside0.mk (below_step (by repeat (first | (with_reducible first | exact HB.out | apply below_alloc | apply pw_below_drewN | apply below_drew1 | refine below_set ?_ GE495.out | refine below_set ?_ GE496.out | refine below_set ?_ GE501.out | refine below_set ?_ GE502.out | refine below_set ?_ GE508.out) | exact HB.out)) hb); clear BK495; clear BK496; clear BK501; clear BK502; clear BK508; clear HB; have HO516 := n0_; have BK495 := n1_; have BK496 := n2_; have BK501 := n3_; have BK502 := n4_; have BK508 := n5_; have HB := n6_; clear n0_ n1_ n2_ n3_ n4_ n5_ n6_; (try clear hb); (try clear hb2); (try clear hk); (try clear hi); (try clear ho0); obtain ⟨Ao180, co180, eo180⟩ := Kd.R_slice HO516.out; subst eo180; have p517 : 0 ≤ (0 : Int) := (by omega); have q517 : 0 < (t514.length : Int) := of_decide_eq_true (by first | (with_reducible assumption) | assumption); obtain ⟨ad517, e517, hx517_0⟩ := Kd.at_int (Kd.R_reads' HO516.out).2.2 0 p517 q517; cases e517; have qi517 : (0 < t514.length) = True := eq_true (by omega); (try rw [show ((0 : Int)).toNat = 0 from rfl] at hx517_0); (try rw [Addr.add_zero'] at hx517_0); replace p517 := eq_true p517; replace q517 := eq_true q517; have p518 : 0 ≤ ((ji171) : Int) := of_decide_eq_true (by first | (with_reducible assumption) | assumption); have q518 : (ji171) < (t514.length : Int) := of_decide_eq_true (by first | (with_reducible assumption) | assumption); obtain ⟨ad518, e518, hx518_0⟩ := Kd.at_int (Kd.R_reads' HO516.out).2.2 (ji171) p518 q518; obtain rfl : ad517 = ad518 := (by injection e518); replace p518 := eq_true p518; replace q518 := eq_true q518))
                  go_roundg k4
                  case measure => have := HJ5.out; have := HK2.out; have := HK3.out; have := HK4.out; omega
                  case rel => exact ⟨(decide (x8_2 ≤ (rd t514 (ji171)))), (IntKind.i8.wrap (x11_4 + 1)), (by first | rfl | (simp; done) | (simp only [← hji171] <;> (first | rfl | simp)) | (simp [*]; done)), (by first | rfl | (simp; done) | (simp [*]; done)), H', ⟨by have := HJ5.out; have := HK2.out; have := HK3.out; have := HK4.out; omega⟩, ⟨by (with_reducible repeat first | apply bN | apply bD | apply bA); exact BK495.out⟩, ⟨by (with_reducible repeat first | apply bN | apply bD | apply bA); exact BK496.out⟩, ⟨by (with_reducible repeat first | apply bN | apply bD | apply bA); exact BK501.out⟩, ⟨by (with_reducible repeat first | apply bN | apply bD | apply bA); exact BK502.out⟩, ⟨by (with_reducible repeat first | apply bN | apply bD | apply bA); exact BK508.out⟩, ⟨by repeat (first | (with_reducible first | exact HB.out | apply below_alloc | apply pw_below_drewN | apply below_drew1 | refine below_set ?_ GE495.out | refine below_set ?_ GE496.out | refine below_set ?_ GE501.out | refine below_set ?_ GE502.out | refine below_set ?_ GE508.out) | exact HB.out)⟩⟩
                 ·rw [if_neg c173] at H
                  exact absurd H (by simp)
                ·rw [if_neg c172] at H
                 exact absurd H (by simp)
               ·rw [if_neg c170] at H
                have c170b0 : decide ((rd t514 0) ≤ x8_2) = false := decide_eq_false c170
                clear c170
                have H' := Aside0.mk H
                clear H
                have hnb181 := NB502_495.out
                have hnc181 := NB495_502.out
                have hnb182 := NB502_496.out
                have hnc182 := NB496_502.out
                have hnb183 := NB502_501.out
                have hnc183 := NB501_502.out
                have hnb184 := NB502_508.out
                have hnc184 := NB508_502.out
                have hcz185_0 : wr.cell? ⟨gb502, 0, none⟩ = some (.int .i8 t499) := (blk_cell BK502.out 0).trans rfl
                have hcz185_1 : wr.cell? ⟨gb502, 1, none⟩ = some (.int .i8 t500) := (blk_cell BK502.out 1).trans rfl
                have hfz185_0 := blk_frozen BK502.out 0
                have hfz185_1 := blk_frozen BK502.out 1
                go_wp2_with (first | ((with_reducible refine gate_callee (f := 32) rfl ?_); refine goesL_ (some 76) rfl rfl Tryd.func32 (by kernel_rfl) rfl #[.int .i8 x10_3, .int .i8 x11_4] rfl (by (try simp only [List.map_toArray, List.map_cons, List.map_nil]); first | done | rfl | (simp only [List.length_drop, List.length_take]; rfl)) ?_; (with_reducible refine (netlabref02_Levels.calls k4 x10_3 x11_4 t514 _ A161.out).mono ?_); rintro e w186 ⟨v515, rfl, ho0, hb⟩; refine ⟨_, rfl, ?_⟩; have n0_ := Aside0.mk (Kd.R_lower ho0 (below_size (by repeat (first | (with_reducible first | exact HB.out | apply below_alloc | apply pw_below_drewN | apply below_drew1 | refine below_set ?_ GE495.out | refine below_set ?_ GE496.out | refine below_set ?_ GE501.out | refine below_set ?_ GE502.out | refine below_set ?_ GE508.out) | exact HB.out)))); have n1_ := Aside0.mk (blk_below (g := gb495) (o := .cells #[.int .i8 a0_0, .int .i8 a0_1] 35 (0, 0)) (by (with_reducible repeat first | apply bN | apply bD | apply bA); exact BK495.out) hb); have n2_ := Aside0.mk (blk_below (g := gb496) (o := .cells #[.int .i8 a1_0, .int .i8 a1_1] 35 (0, 0)) (by (with_reducible repeat first | apply bN | apply bD | apply bA); exact BK496.out) hb); have n3_ := Aside0.mk (blk_below (g := gb501) (o := .cells #[.int .i8 t497, .int .i8 t498] 26 (0, 0)) (by (with_reducible repeat first | apply bN | apply bD | apply bA); exact BK501.out) hb); have n4_ := Aside0.mk (blk_below (g := gb502) (o := .cells #[.int .i8 t499, .int .i8 t500] 26 (0, 0)) (by (with_reducible repeat first | apply bN | apply bD | apply bA); exact BK502.out) hb); have n5_ := Aside0.mk (blk_below (g := gb508) (o := .cells #[.int .i8 t506, .int .i8 t507] 26 (0, 0)) (by (with_reducible repeat first | apply bN | apply bD | apply bA); exact BK508.out) hb); have n6_ := Aside0.mk (below_step (by repeat (first | (with_reducible first | exact HB.out | apply below_alloc | apply pw_below_drewN | apply below_drew1 | refine below_set ?_ GE495.out | refine below_set ?_ GE496.out | refine below_set ?_ GE501.out | refine below_set ?_ GE502.out | refine below_set ?_ GE508.out) | exact HB.out)) hb); clear BK495; clear BK496; clear BK501; clear BK502; clear BK508; clear HB; have HO516 := n0_; have BK495 := n1_; have BK496 := n2_; have BK501 := n3_; have BK502 := n4_; have BK508 := n5_; have HB := n6_; clear n0_ n1_ n2_ n3_ n4_ n5_ n6_; (try clear hb); (try clear hb2); (try clear hk); (try clear hi); (try clear ho0); obtain ⟨Ao187, co187, eo187⟩ := Kd.R_slice HO516.out; subst eo187; have p517 : 0 ≤ (0 : Int) := (by omega); have q517 : 0 < (t514.length : Int) := of_decide_eq_true (by first | (with_reducible assumption) | assumption); obtain ⟨ad517, e517, hx517_0⟩ := Kd.at_int (Kd.R_reads' HO516.out).2.2 0 p517 q517; cases e517; have qi517 : (0 < t514.length) = True := eq_true (by omega); (try rw [show ((0 : Int)).toNat = 0 from rfl] at hx517_0); (try rw [Addr.add_zero'] at hx517_0); replace p517 := eq_true p517; replace q517 := eq_true q517))
                go_roundg k4
                case measure => have := HJ5.out; have := HK2.out; have := HK3.out; have := HK4.out; omega
                case rel => exact ⟨(false), (IntKind.i8.wrap (x11_4 + 1)), (by first | rfl | (simp; done) | (simp [*]; done)), (by first | rfl | (simp; done) | (simp [*]; done)), H', ⟨by have := HJ5.out; have := HK2.out; have := HK3.out; have := HK4.out; omega⟩, ⟨by (with_reducible repeat first | apply bN | apply bD | apply bA); exact BK495.out⟩, ⟨by (with_reducible repeat first | apply bN | apply bD | apply bA); exact BK496.out⟩, ⟨by (with_reducible repeat first | apply bN | apply bD | apply bA); exact BK501.out⟩, ⟨by (with_reducible repeat first | apply bN | apply bD | apply bA); exact BK502.out⟩, ⟨by (with_reducible repeat first | apply bN | apply bD | apply bA); exact BK508.out⟩, ⟨by repeat (first | (with_reducible first | exact HB.out | apply below_alloc | apply pw_below_drewN | apply below_drew1 | refine below_set ?_ GE495.out | refine below_set ?_ GE496.out | refine below_set ?_ GE501.out | refine below_set ?_ GE502.out | refine below_set ?_ GE508.out) | exact HB.out)⟩⟩
              ·rw [if_neg c169] at H
               exact absurd H (by simp)
            ·rw [if_neg c160] at H
             have c160b0 : decide (x11_4 ≤ t500) = false := decide_eq_false c160
             clear c160
             have H' := Aside0.mk H
             clear H
             have hnb188 := NB502_495.out
             have hnc188 := NB495_502.out
             have hnb189 := NB502_496.out
             have hnc189 := NB496_502.out
             have hnb190 := NB502_501.out
             have hnc190 := NB501_502.out
             have hnb191 := NB502_508.out
             have hnc191 := NB508_502.out
             have hcz192_0 : wr.cell? ⟨gb502, 0, none⟩ = some (.int .i8 t499) := (blk_cell BK502.out 0).trans rfl
             have hcz192_1 : wr.cell? ⟨gb502, 1, none⟩ = some (.int .i8 t500) := (blk_cell BK502.out 1).trans rfl
             have hfz192_0 := blk_frozen BK502.out 0
             have hfz192_1 := blk_frozen BK502.out 1
             go_wp2
             go_roundg k4
             case measure => have := HJ5.out; have := HK2.out; have := HK3.out; have := HK4.out; omega
             case rel => exact ⟨(x9_4), (IntKind.i8.wrap (x10_3 + 1)), (by first | rfl | (simp; done) | (simp [*]; done)), (by first | rfl | (simp; done) | (simp [*]; done)), H', ⟨by have := HJ5.out; have := HK2.out; have := HK3.out; have := HK4.out; omega⟩, ⟨by (with_reducible repeat first | apply bN | apply bD | apply bA); exact BK495.out⟩, ⟨by (with_reducible repeat first | apply bN | apply bD | apply bA); exact BK496.out⟩, ⟨by (with_reducible repeat first | apply bN | apply bD | apply bA); exact BK501.out⟩, ⟨by (with_reducible repeat first | apply bN | apply bD | apply bA); exact BK502.out⟩, ⟨by (with_reducible repeat first | apply bN | apply bD | apply bA); exact BK508.out⟩, ⟨by repeat (first | (with_reducible first | exact HB.out | apply below_alloc | apply pw_below_drewN | apply below_drew1 | refine below_set ?_ GE495.out | refine below_set ?_ GE496.out | refine below_set ?_ GE501.out | refine below_set ?_ GE502.out | refine below_set ?_ GE508.out) | exact HB.out)⟩⟩
         ·rw [if_neg c150] at H
          have c150b0 : decide (x10_3 ≤ t498) = false := decide_eq_false c150
          clear c150
          replace H := Option.bind_eq_some_iff.mp H
          obtain ⟨t513, A1930, H⟩ := H
          replace H : (if (t513 != x9_3) = true then (none) else (netlablaw02_StrengthElements.l0 k3 (IntKind.i8.wrap (x8_2 + 1)) t497 t498 t499 t500 t506 t507)) = some r := H
          have A193 := Aside0.mk A1930
          clear A1930
          by_cases c194 : (t513 != x9_3) = true
          ·rw [if_pos c194] at H
           exact absurd H (by simp)
          ·rw [if_neg c194] at H
           have c194b0 : (t513 != x9_3) = false := by simpa using c194
           (try (have c194b1 : decide (t513 = x9_3) = true := by simpa using c194))
           (try (have c194b2 : (t513 == x9_3) = true := by simpa using c194))
           clear c194
           have H' := Aside0.mk H
           clear H
           have hnb195 := NB501_495.out
           have hnc195 := NB495_501.out
           have hnb196 := NB501_496.out
           have hnc196 := NB496_501.out
           have hnb197 := NB501_502.out
           have hnc197 := NB502_501.out
           have hnb198 := NB501_508.out
           have hnc198 := NB508_501.out
           have hcz199_0 : wr.cell? ⟨gb501, 0, none⟩ = some (.int .i8 t497) := (blk_cell BK501.out 0).trans rfl
           have hcz199_1 : wr.cell? ⟨gb501, 1, none⟩ = some (.int .i8 t498) := (blk_cell BK501.out 1).trans rfl
           have hfz199_0 := blk_frozen BK501.out 0
           have hfz199_1 := blk_frozen BK501.out 1
           have hnb200 := NB508_495.out
           have hnc200 := NB495_508.out
           have hnb201 := NB508_496.out
           have hnc201 := NB496_508.out
           have hnb202 := NB508_502.out
           have hnc202 := NB502_508.out
           have hcz203_0 : wr.cell? ⟨gb508, 0, none⟩ = some (.int .i8 t506) := (blk_cell BK508.out 0).trans rfl
           have hcz203_1 : wr.cell? ⟨gb508, 1, none⟩ = some (.int .i8 t507) := (blk_cell BK508.out 1).trans rfl
           have hfz203_0 := blk_frozen BK508.out 0
           have hfz203_1 := blk_frozen BK508.out 1
           go_wp2_with (first | ((with_reducible refine gate_callee (f := 30) rfl ?_); refine goesL_ (some 98) rfl rfl Tryd.func30 (by kernel_rfl) rfl #[.agg #[.int .i8 t506, .int .i8 t507], .int .i64 (wrap64 (x8_2))] rfl (by (try simp only [List.map_toArray, List.map_cons, List.map_nil]); first | done | rfl | (simp only [List.length_drop, List.length_take]; rfl)) ?_; (with_reducible refine (strength_Contains.calls t506 t507 (wrap64 (x8_2)) t513 _ A193.out).mono ?_); rintro e w204 ⟨rfl, hb⟩; refine ⟨_, rfl, ?_⟩; have n0_ := Aside0.mk (blk_below (g := gb495) (o := .cells #[.int .i8 a0_0, .int .i8 a0_1] 35 (0, 0)) (by (with_reducible repeat first | apply bN | apply bD | apply bA); exact BK495.out) hb); have n1_ := Aside0.mk (blk_below (g := gb496) (o := .cells #[.int .i8 a1_0, .int .i8 a1_1] 35 (0, 0)) (by (with_reducible repeat first | apply bN | apply bD | apply bA); exact BK496.out) hb); have n2_ := Aside0.mk (blk_below (g := gb501) (o := .cells #[.int .i8 t497, .int .i8 t498] 26 (0, 0)) (by (with_reducible repeat first | apply bN | apply bD | apply bA); exact BK501.out) hb); have n3_ := Aside0.mk (blk_below (g := gb502) (o := .cells #[.int .i8 t499, .int .i8 t500] 26 (0, 0)) (by (with_reducible repeat first | apply bN | apply bD | apply bA); exact BK502.out) hb); have n4_ := Aside0.mk (blk_below (g := gb508) (o := .cells #[.int .i8 t506, .int .i8 t507] 26 (0, 0)) (by (with_reducible repeat first | apply bN | apply bD | apply bA); exact BK508.out) hb); have n5_ := Aside0.mk (below_step (by repeat (first | (with_reducible first | exact HB.out | apply below_alloc | apply pw_below_drewN | apply below_drew1 | refine below_set ?_ GE495.out | refine below_set ?_ GE496.out | refine below_set ?_ GE501.out | refine below_set ?_ GE502.out | refine below_set ?_ GE508.out) | exact HB.out)) hb); clear BK495; clear BK496; clear BK501; clear BK502; clear BK508; clear HB; have BK495 := n0_; have BK496 := n1_; have BK501 := n2_; have BK502 := n3_; have BK508 := n4_; have HB := n5_; clear n0_ n1_ n2_ n3_ n4_ n5_; (try clear hb); (try clear hb2); (try clear hk); (try clear hi)))
           go_roundg k3
           case measure => have := HJ5.out; have := HK2.out; have := HK3.out; omega
           case rel => exact ⟨(IntKind.i8.wrap (x8_2 + 1)), (by first | rfl | (simp; done) | (simp [*]; done)), H', ⟨by have := HJ5.out; have := HK2.out; have := HK3.out; omega⟩, ⟨by (with_reducible repeat first | apply bN | apply bD | apply bA); exact BK495.out⟩, ⟨by (with_reducible repeat first | apply bN | apply bD | apply bA); exact BK496.out⟩, ⟨by (with_reducible repeat first | apply bN | apply bD | apply bA); exact BK501.out⟩, ⟨by (with_reducible repeat first | apply bN | apply bD | apply bA); exact BK502.out⟩, ⟨by (with_reducible repeat first | apply bN | apply bD | apply bA); exact BK508.out⟩, ⟨by repeat (first | (with_reducible first | exact HB.out | apply below_alloc | apply pw_below_drewN | apply below_drew1 | refine below_set ?_ GE495.out | refine below_set ?_ GE496.out | refine below_set ?_ GE501.out | refine below_set ?_ GE502.out | refine below_set ?_ GE508.out) | exact HB.out)⟩⟩
      ·rw [if_neg c144] at H
       have c144b0 : decide (x8_2 ≤ 7) = false := decide_eq_false c144
       clear c144
       replace H := Option.bind_eq_some_iff.mp H
       obtain ⟨t512, A2050, H⟩ := H
       replace H : (if t512 = true then (some true) else (none)) = some r := H
       have A205 := Aside0.mk A2050
       clear A2050
       by_cases c206 : t512 = true
       ·subst c206
        have H1 : (some true) = some r := by rw [if_pos rfl] at H; exact H
        clear H
        have H := H1
        clear H1
        obtain rfl := Option.some.inj H
        go_wp2_with (first | ((with_reducible refine gate_callee (f := 17) rfl ?_); refine goesL_ (some 101) rfl rfl Tryd.func17 (by kernel_rfl) rfl #[] rfl (by (try simp only [List.map_toArray, List.map_cons, List.map_nil]); first | done | rfl | (simp only [List.length_drop, List.length_take]; rfl)) ?_; (with_reducible refine (netlablaw02_awake.calls k2  true _ (Glob.below HG.out (by repeat (first | (with_reducible first | exact HB.out | apply below_alloc | apply pw_below_drewN | apply below_drew1 | refine below_set ?_ GE495.out | refine below_set ?_ GE496.out | refine below_set ?_ GE501.out | refine below_set ?_ GE502.out | refine below_set ?_ GE508.out) | exact HB.out))) A205.out).mono ?_); rintro e w207 ⟨rfl, hb⟩; refine ⟨_, rfl, ?_⟩; have n0_ := Aside0.mk (blk_below (g := gb495) (o := .cells #[.int .i8 a0_0, .int .i8 a0_1] 35 (0, 0)) (by (with_reducible repeat first | apply bN | apply bD | apply bA); exact BK495.out) hb); have n1_ := Aside0.mk (blk_below (g := gb496) (o := .cells #[.int .i8 a1_0, .int .i8 a1_1] 35 (0, 0)) (by (with_reducible repeat first | apply bN | apply bD | apply bA); exact BK496.out) hb); have n2_ := Aside0.mk (blk_below (g := gb501) (o := .cells #[.int .i8 t497, .int .i8 t498] 26 (0, 0)) (by (with_reducible repeat first | apply bN | apply bD | apply bA); exact BK501.out) hb); have n3_ := Aside0.mk (blk_below (g := gb502) (o := .cells #[.int .i8 t499, .int .i8 t500] 26 (0, 0)) (by (with_reducible repeat first | apply bN | apply bD | apply bA); exact BK502.out) hb); have n4_ := Aside0.mk (blk_below (g := gb508) (o := .cells #[.int .i8 t506, .int .i8 t507] 26 (0, 0)) (by (with_reducible repeat first | apply bN | apply bD | apply bA); exact BK508.out) hb); have n5_ := Aside0.mk (below_step (by repeat (first | (with_reducible first | exact HB.out | apply below_alloc | apply pw_below_drewN | apply below_drew1 | refine below_set ?_ GE495.out | refine below_set ?_ GE496.out | refine below_set ?_ GE501.out | refine below_set ?_ GE502.out | refine below_set ?_ GE508.out) | exact HB.out)) hb); clear BK495; clear BK496; clear BK501; clear BK502; clear BK508; clear HB; have BK495 := n0_; have BK496 := n1_; have BK501 := n2_; have BK502 := n3_; have BK508 := n4_; have HB := n5_; clear n0_ n1_ n2_ n3_ n4_ n5_; (try clear hb); (try clear hb2); (try clear hk); (try clear hi)))
        go_ret
        exact ⟨by first | rfl | (simp [errW_none, errW_some] <;> rfl) | (simp [*, errW_none, errW_some] <;> rfl), by repeat (first | (with_reducible first | exact HB.out | apply below_alloc | apply pw_below_drewN | apply below_drew1 | refine below_set ?_ GE495.out | refine below_set ?_ GE496.out | refine below_set ?_ GE501.out | refine below_set ?_ GE502.out | refine below_set ?_ GE508.out) | exact HB.out)⟩
       ·replace c206 := Bool.eq_false_iff.mpr c206
        subst c206
        have H1 : (none) = some r := by rw [if_neg (show ¬ (false = true) by decide)] at H; exact H
        clear H
        have H := H1
        clear H1
        exact absurd H (by simp)

end Go.Proofs.YtcgckodhehnpnaaDoor.F
