-- Written by a program of this session (wip/tools/drive.py) over the kit's print.py.
import Derived.Test.YtcgckodhehnpnaaDoorF0
import Derived.Test.YtcgckodhehnpnaaDoorF2
import Derived.Test.YtcgckodhehnpnaaDoorF3
import Derived.Test.YtcgckodhehnpnaaDoorF4
import Derived.Test.YtcgckodhehnpnaaDoorF7
import Derived.Test.YtcgckodhehnpnaaDoorF8
namespace Go.Proofs.YtcgckodhehnpnaaDoor.F
open Go.RowKit Go.Proofs.YtcgckodhehnpnaaDoorW.PrintWords Go.Proofs.YtcgckodhehnpnaaDoorW.PrintLast Go.Proofs.YtcgckodhehnpnaaDoorW.PrintMore
attribute [local go_sem] max2_int min2_int max_two min_two max_three min_three max_four min_four   -- for this text's walks alone
set_option linter.unusedVariables false
set_option linter.unusedSimpArgs false

attribute [local go_sem high] eqA26
/-! ### netlablaw02_awake: function 17 -/
def netlablaw02_awake.f (k : Nat)  : Option (Bool) := (strength_Parse.f (⟨#[104, 105, 103, 104, 122, 48]⟩ : ByteArray)).bind fun bt165 => ((netlablaw02_to.f 5 5).bind fun bt168 => ((netlablaw02_to.f (-5) (-5)).bind fun bt170 => ((strength_Combine.f k (([(⟨bt168.1, bt168.2⟩ : S26), (⟨bt170.1, bt170.2⟩ : S26)] : List (S26)))).bind fun bt175 => ((strength_Drive.f 1 6 5).bind fun bt178 => ((netlablaw02_to.f 5 5).bind fun bt180 => (if (bt178.1 == bt180.1 && (bt178.2 == bt180.2)) = true then ((strength_Drive.f 2 6 5).bind fun bt182 => ((netlablaw02_to.f (-6) 5).bind fun bt184 => (if (bt182.1 == bt184.1 && (bt182.2 == bt184.2)) = true then ((netlablaw02_to.f (-5) 5).bind fun bt186 => (if (bt175.1 == bt186.1 && (bt175.2 == bt186.2)) = true then ((strength_Read.f bt175.1 bt175.2).bind fun t188 => (if t188 = 2 then ((netlablaw02_to.f 6 6).bind fun bt189 => ((strength_Combine.f k (([(⟨bt175.1, bt175.2⟩ : S26), (⟨bt189.1, bt189.2⟩ : S26)] : List (S26)))).bind fun bt194 => ((netlablaw02_to.f 6 6).bind fun bt196 => (if (bt194.1 == bt196.1 && (bt194.2 == bt196.2)) = true then ((netlablaw02_to.f 6 6).bind fun bt198 => ((strength_Read.f bt198.1 bt198.2).bind fun t200 => (if t200 = 1 then ((netlablaw02_to.f 3 5).bind fun bt201 => ((netlablaw02_to.f (-4) (-4)).bind fun bt203 => ((strength_Combine.f k (([(⟨bt201.1, bt201.2⟩ : S26), (⟨bt203.1, bt203.2⟩ : S26)] : List (S26)))).bind fun bt208 => ((netlablaw02_to.f (-4) 5).bind fun bt210 => (if (bt208.1 == bt210.1 && (bt208.2 == bt210.2)) = true then ((netlablaw02_to.f 0 0).bind fun bt212 => ((strength_Read.f bt212.1 bt212.2).bind fun t214 => (if t214 = 3 then ((netlablaw02_to.f 0 3).bind fun bt215 => ((strength_Read.f bt215.1 bt215.2).bind fun t217 => (if t217 = 2 then ((netlablaw02_to.f 1 3).bind fun bt218 => ((strength_Read.f bt218.1 bt218.2).bind fun t220 => (if t220 = 1 then ((strength_Name.f 5 true).bind fun t221 => (if t221.toList = ([112, 117, 108, 108, 49] : List UInt8) then (if bt165.1 = 0 then (if bt165.2.1 = true then (none) else (some bt165.2.2)) else (none)) else (none))) else (none)))) else (none)))) else (none)))) else (none)))))) else (none)))) else (none))))) else (none))) else (none))) else (none)))) else (none)))))))
theorem netlablaw02_awake.mono : ∀ k, LeO (netlablaw02_awake.f k ) (netlablaw02_awake.f (k + 1) ) := by
 intro  k
 unfold netlablaw02_awake.f
 repeat' first
   | (with_reducible exact strength_Combine.mono _ _)
   | (with_reducible exact LeO.refl _)
   | (with_reducible exact LeO.none _)
   | (with_reducible refine LeO.ite ?_ ?_)
   | (with_reducible refine LeO.bind ?_ (fun _ => ?_))
   | exact strength_Combine.mono _ _
   | exact LeO.none _
   | refine LeO.ite ?_ ?_
   | refine LeO.bind ?_ (fun _ => ?_)
def netlablaw02_awake.T3 : Bool × List (List Nat × List Nat) := (true, [([], []), ([0], []), ([0, 1], [0, 1]), ([2, 1], [2]), ([3, 3], [3]), ([4, 3], [3]), ([4, 5, 3], [3, 4, 5]), ([3, 6], [3, 6]), ([7, 5], [7]), ([8], [8]), ([8, 8], [8]), ([9, 10, 8], [8, 9, 10]), ([8, 11], [8, 11]), ([12, 10], [12]), ([13], [13]), ([14, 13, 13], [13, 14]), ([15, 13], [13, 15]), ([13, 16], [13, 16]), ([17, 15], [17]), ([18], [18]), ([18, 18], [18]), ([19, 20, 18], [18, 19, 20]), ([21, 20, 18], [18, 21]), ([22, 18], [18]), ([22, 23, 18], [18, 22, 23]), ([18, 24], [18, 24]), ([25, 23], [25]), ([26, 26], [26]), ([27, 27, 26], [26, 27]), ([28, 26], [26, 28]), ([26, 29], [26, 29]), ([30, 28], [30]), ([31, 31], [31]), ([32, 31], [31]), ([32, 33, 31], [31, 32, 33]), ([34, 33, 31], [31, 34]), ([35, 31], [31]), ([35, 36, 31], [31, 35, 36]), ([31, 37], [31, 37]), ([38, 36], [38]), ([39, 39], [39]), ([40, 40, 39], [39, 40]), ([41, 39], [39, 41]), ([39, 42], [39, 42]), ([43, 41], [43]), ([44, 44], [44]), ([45, 45, 44], [44, 45]), ([46, 44], [44, 46]), ([44, 47], [44, 47]), ([48, 46], [48]), ([49, 49], [49]), ([50, 50, 49], [49, 50]), ([51, 49], [49, 51]), ([49, 52], [49, 52]), ([53, 51], [53]), ([54, 54], [54]), ([55, 54], [54, 55]), ([54, 56], [54, 56]), ([57, 55], [57]), ([58], [58]), ([59, 58], [58, 59]), ([58, 60], [58, 60]), ([61, 58], [61]), ([62], [62]), ([63, 62], [62, 63]), ([62, 64], [62, 64]), ([65, 62], [65]), ([66], [66]), ([66, 67], [66, 67]), ([68, 66, 0, 1, 2, 3, 4, 5, 6, 7, 8, 9, 10, 11, 12, 13, 14, 15, 16, 17, 18, 19, 20, 21, 22, 23, 24, 25, 26, 27, 28, 29, 30, 31, 32, 33, 34, 35, 36, 37, 38, 39, 40, 41, 42, 43, 44, 45, 46, 47, 48, 49, 50, 51, 52, 53, 54, 55, 56, 57, 58, 59, 60, 61, 62, 63, 64, 65, 66, 67, 68], [68])])
def netlablaw02_awake.B3 : List Nat := [0, 1, 3, 7, 15, 31, 63, 127, 255, 511, 511, 2047, 4095, 8191, 16383, 32767, 65535, 131071, 262143, 524287, 524287, 2097151, 4194303, 8388607, 16777215, 33554431, 67108863, 134217727, 268435455, 536870911, 1073741823, 2147483647, 4294967295, 8589934591, 17179869183, 34359738367, 68719476735, 137438953471, 274877906943, 549755813887, 1099511627775, 2199023255551, 4398046511103, 8796093022207, 17592186044415, 35184372088831, 70368744177663, 140737488355327, 281474976710655, 562949953421311, 1125899906842623, 2251799813685247, 4503599627370495, 9007199254740991, 18014398509481983, 36028797018963967, 72057594037927935, 144115188075855871, 288230376151711743, 576460752303423487, 1152921504606846975, 2305843009213693951, 4611686018427387903, 9223372036854775807, 18446744073709551615, 36893488147419103231, 73786976294838206463, 147573952589676412927, 295147905179352825855, 590295810358705651711]
theorem netlablaw02_awake.tab3 : rtab .any (opsOf Tryd.f17 3) = netlablaw02_awake.T3 := by kernel_rfl
theorem netlablaw02_awake.bits3 : waitsOk netlablaw02_awake.T3.2 netlablaw02_awake.B3 = true := by kernel_rfl
set_option maxHeartbeats 8000000 in
set_option maxRecDepth 100000 in
theorem netlablaw02_awake.calls (k : Nat)  (r : Bool) (w : World) (hG : Glob w) (h : netlablaw02_awake.f k  = some r) :
  Calls Tryd.prog 17 #[] w fun e w' => e = .returned (.bool r) ∧ Below w.heap.size w w' := by
 have hu26 := Tryd.underlying26
 have HG := Aside0.mk hG
 clear hG
 have HB := Aside0.mk (Below.refl w.heap.size w)
 have H : ((strength_Parse.f (⟨#[104, 105, 103, 104, 122, 48]⟩ : ByteArray)).bind fun bt165 => ((netlablaw02_to.f 5 5).bind fun bt168 => ((netlablaw02_to.f (-5) (-5)).bind fun bt170 => ((strength_Combine.f k (([(⟨bt168.1, bt168.2⟩ : S26), (⟨bt170.1, bt170.2⟩ : S26)] : List (S26)))).bind fun bt175 => ((strength_Drive.f 1 6 5).bind fun bt178 => ((netlablaw02_to.f 5 5).bind fun bt180 => (if (bt178.1 == bt180.1 && (bt178.2 == bt180.2)) = true then ((strength_Drive.f 2 6 5).bind fun bt182 => ((netlablaw02_to.f (-6) 5).bind fun bt184 => (if (bt182.1 == bt184.1 && (bt182.2 == bt184.2)) = true then ((netlablaw02_to.f (-5) 5).bind fun bt186 => (if (bt175.1 == bt186.1 && (bt175.2 == bt186.2)) = true then ((strength_Read.f bt175.1 bt175.2).bind fun t188 => (if t188 = 2 then ((netlablaw02_to.f 6 6).bind fun bt189 => ((strength_Combine.f k (([(⟨bt175.1, bt175.2⟩ : S26), (⟨bt189.1, bt189.2⟩ : S26)] : List (S26)))).bind fun bt194 => ((netlablaw02_to.f 6 6).bind fun bt196 => (if (bt194.1 == bt196.1 && (bt194.2 == bt196.2)) = true then ((netlablaw02_to.f 6 6).bind fun bt198 => ((strength_Read.f bt198.1 bt198.2).bind fun t200 => (if t200 = 1 then ((netlablaw02_to.f 3 5).bind fun bt201 => ((netlablaw02_to.f (-4) (-4)).bind fun bt203 => ((strength_Combine.f k (([(⟨bt201.1, bt201.2⟩ : S26), (⟨bt203.1, bt203.2⟩ : S26)] : List (S26)))).bind fun bt208 => ((netlablaw02_to.f (-4) 5).bind fun bt210 => (if (bt208.1 == bt210.1 && (bt208.2 == bt210.2)) = true then ((netlablaw02_to.f 0 0).bind fun bt212 => ((strength_Read.f bt212.1 bt212.2).bind fun t214 => (if t214 = 3 then ((netlablaw02_to.f 0 3).bind fun bt215 => ((strength_Read.f bt215.1 bt215.2).bind fun t217 => (if t217 = 2 then ((netlablaw02_to.f 1 3).bind fun bt218 => ((strength_Read.f bt218.1 bt218.2).bind fun t220 => (if t220 = 1 then ((strength_Name.f 5 true).bind fun t221 => (if t221.toList = ([112, 117, 108, 108, 49] : List UInt8) then (if bt165.1 = 0 then (if bt165.2.1 = true then (none) else (some bt165.2.2)) else (none)) else (none))) else (none)))) else (none)))) else (none)))) else (none)))))) else (none)))) else (none))))) else (none))) else (none))) else (none)))) else (none)))))))) = some r := h
 clear h
 replace H := Option.bind_eq_some_iff.mp H
 obtain ⟨⟨t165, t166, t167⟩, A10, H⟩ := H
 have A1 := Aside0.mk A10
 clear A10
 replace H := Option.bind_eq_some_iff.mp H
 obtain ⟨⟨t168, t169⟩, A20, H⟩ := H
 have A2 := Aside0.mk A20
 clear A20
 replace H := Option.bind_eq_some_iff.mp H
 obtain ⟨⟨t170, t171⟩, A30, H⟩ := H
 have A3 := Aside0.mk A30
 clear A30
 obtain ⟨y172, hy172⟩ : ∃ y_ : List (S26), y_ = (([(⟨t168, t169⟩ : S26), (⟨t170, t171⟩ : S26)] : List (S26))) := ⟨_, rfl⟩
 replace H : ((strength_Combine.f k y172).bind fun bt175 => ((strength_Drive.f 1 6 5).bind fun bt178 => ((netlablaw02_to.f 5 5).bind fun bt180 => (if (bt178.1 == bt180.1 && (bt178.2 == bt180.2)) = true then ((strength_Drive.f 2 6 5).bind fun bt182 => ((netlablaw02_to.f (-6) 5).bind fun bt184 => (if (bt182.1 == bt184.1 && (bt182.2 == bt184.2)) = true then ((netlablaw02_to.f (-5) 5).bind fun bt186 => (if (bt175.1 == bt186.1 && (bt175.2 == bt186.2)) = true then ((strength_Read.f bt175.1 bt175.2).bind fun t188 => (if t188 = 2 then ((netlablaw02_to.f 6 6).bind fun bt189 => ((strength_Combine.f k (([(⟨bt175.1, bt175.2⟩ : S26), (⟨bt189.1, bt189.2⟩ : S26)] : List (S26)))).bind fun bt194 => ((netlablaw02_to.f 6 6).bind fun bt196 => (if (bt194.1 == bt196.1 && (bt194.2 == bt196.2)) = true then ((netlablaw02_to.f 6 6).bind fun bt198 => ((strength_Read.f bt198.1 bt198.2).bind fun t200 => (if t200 = 1 then ((netlablaw02_to.f 3 5).bind fun bt201 => ((netlablaw02_to.f (-4) (-4)).bind fun bt203 => ((strength_Combine.f k (([(⟨bt201.1, bt201.2⟩ : S26), (⟨bt203.1, bt203.2⟩ : S26)] : List (S26)))).bind fun bt208 => ((netlablaw02_to.f (-4) 5).bind fun bt210 => (if (bt208.1 == bt210.1 && (bt208.2 == bt210.2)) = true then ((netlablaw02_to.f 0 0).bind fun bt212 => ((strength_Read.f bt212.1 bt212.2).bind fun t214 => (if t214 = 3 then ((netlablaw02_to.f 0 3).bind fun bt215 => ((strength_Read.f bt215.1 bt215.2).bind fun t217 => (if t217 = 2 then ((netlablaw02_to.f 1 3).bind fun bt218 => ((strength_Read.f bt218.1 bt218.2).bind fun t220 => (if t220 = 1 then ((strength_Name.f 5 true).bind fun t221 => (if t221.toList = ([112, 117, 108, 108, 49] : List UInt8) then (if t165 = 0 then (if t166 = true then (none) else (some t167)) else (none)) else (none))) else (none)))) else (none)))) else (none)))) else (none)))))) else (none)))) else (none))))) else (none))) else (none))) else (none)))) else (none))))) = some r := by first | (rw [hy172]; with_reducible exact H) | (have H2_ := (Option.bind_some _ _).symm.trans H; rw [hy172]; with_reducible exact H2_) | (have H2_ := (Option.bind_some _ _).symm.trans H; with_reducible exact H2_) | with_reducible exact H | (rw [hy172]; exact H) | exact H
 have Ny172 := Aside0.mk hy172
 clear hy172
 replace H := Option.bind_eq_some_iff.mp H
 obtain ⟨⟨t175, t176⟩, A40, H⟩ := H
 have A4 := Aside0.mk A40
 clear A40
 replace H := Option.bind_eq_some_iff.mp H
 obtain ⟨⟨t178, t179⟩, A50, H⟩ := H
 have A5 := Aside0.mk A50
 clear A50
 replace H := Option.bind_eq_some_iff.mp H
 obtain ⟨⟨t180, t181⟩, A60, H⟩ := H
 have A6 := Aside0.mk A60
 clear A60
 by_cases c7 : (t178 == t180 && (t179 == t181)) = true
 ·rw [if_pos c7] at H
  have c7b0 : (t178 == t180 && (t179 == t181)) = true := c7
  (try (have c7b1 : decide (t178 = t180 && (t179 == t181)) = true := by simpa using c7))
  (try (have c7b2 : (t178 == t180 && (t179 == t181)) = true := by simpa using c7))
  clear c7
  replace H := Option.bind_eq_some_iff.mp H
  obtain ⟨⟨t182, t183⟩, A80, H⟩ := H
  have A8 := Aside0.mk A80
  clear A80
  replace H := Option.bind_eq_some_iff.mp H
  obtain ⟨⟨t184, t185⟩, A90, H⟩ := H
  have A9 := Aside0.mk A90
  clear A90
  by_cases c10 : (t182 == t184 && (t183 == t185)) = true
  ·rw [if_pos c10] at H
   have c10b0 : (t182 == t184 && (t183 == t185)) = true := c10
   (try (have c10b1 : decide (t182 = t184 && (t183 == t185)) = true := by simpa using c10))
   (try (have c10b2 : (t182 == t184 && (t183 == t185)) = true := by simpa using c10))
   clear c10
   replace H := Option.bind_eq_some_iff.mp H
   obtain ⟨⟨t186, t187⟩, A110, H⟩ := H
   replace H : (if (t175 == t186 && (t176 == t187)) = true then ((strength_Read.f t175 t176).bind fun t188 => (if t188 = 2 then ((netlablaw02_to.f 6 6).bind fun bt189 => ((strength_Combine.f k (([(⟨t175, t176⟩ : S26), (⟨bt189.1, bt189.2⟩ : S26)] : List (S26)))).bind fun bt194 => ((netlablaw02_to.f 6 6).bind fun bt196 => (if (bt194.1 == bt196.1 && (bt194.2 == bt196.2)) = true then ((netlablaw02_to.f 6 6).bind fun bt198 => ((strength_Read.f bt198.1 bt198.2).bind fun t200 => (if t200 = 1 then ((netlablaw02_to.f 3 5).bind fun bt201 => ((netlablaw02_to.f (-4) (-4)).bind fun bt203 => ((strength_Combine.f k (([(⟨bt201.1, bt201.2⟩ : S26), (⟨bt203.1, bt203.2⟩ : S26)] : List (S26)))).bind fun bt208 => ((netlablaw02_to.f (-4) 5).bind fun bt210 => (if (bt208.1 == bt210.1 && (bt208.2 == bt210.2)) = true then ((netlablaw02_to.f 0 0).bind fun bt212 => ((strength_Read.f bt212.1 bt212.2).bind fun t214 => (if t214 = 3 then ((netlablaw02_to.f 0 3).bind fun bt215 => ((strength_Read.f bt215.1 bt215.2).bind fun t217 => (if t217 = 2 then ((netlablaw02_to.f 1 3).bind fun bt218 => ((strength_Read.f bt218.1 bt218.2).bind fun t220 => (if t220 = 1 then ((strength_Name.f 5 true).bind fun t221 => (if t221.toList = ([112, 117, 108, 108, 49] : List UInt8) then (if t165 = 0 then (if t166 = true then (none) else (some t167)) else (none)) else (none))) else (none)))) else (none)))) else (none)))) else (none)))))) else (none)))) else (none))))) else (none))) else (none)) = some r := H
   have A11 := Aside0.mk A110
   clear A110
   by_cases c12 : (t175 == t186 && (t176 == t187)) = true
   ·rw [if_pos c12] at H
    have c12b0 : (t175 == t186 && (t176 == t187)) = true := c12
    (try (have c12b1 : decide (t175 = t186 && (t176 == t187)) = true := by simpa using c12))
    (try (have c12b2 : (t175 == t186 && (t176 == t187)) = true := by simpa using c12))
    clear c12
    replace H := Option.bind_eq_some_iff.mp H
    obtain ⟨t188, A130, H⟩ := H
    replace H : (if t188 = 2 then ((netlablaw02_to.f 6 6).bind fun bt189 => ((strength_Combine.f k (([(⟨t175, t176⟩ : S26), (⟨bt189.1, bt189.2⟩ : S26)] : List (S26)))).bind fun bt194 => ((netlablaw02_to.f 6 6).bind fun bt196 => (if (bt194.1 == bt196.1 && (bt194.2 == bt196.2)) = true then ((netlablaw02_to.f 6 6).bind fun bt198 => ((strength_Read.f bt198.1 bt198.2).bind fun t200 => (if t200 = 1 then ((netlablaw02_to.f 3 5).bind fun bt201 => ((netlablaw02_to.f (-4) (-4)).bind fun bt203 => ((strength_Combine.f k (([(⟨bt201.1, bt201.2⟩ : S26), (⟨bt203.1, bt203.2⟩ : S26)] : List (S26)))).bind fun bt208 => ((netlablaw02_to.f (-4) 5).bind fun bt210 => (if (bt208.1 == bt210.1 && (bt208.2 == bt210.2)) = true then ((netlablaw02_to.f 0 0).bind fun bt212 => ((strength_Read.f bt212.1 bt212.2).bind fun t214 => (if t214 = 3 then ((netlablaw02_to.f 0 3).bind fun bt215 => ((strength_Read.f bt215.1 bt215.2).bind fun t217 => (if t217 = 2 then ((netlablaw02_to.f 1 3).bind fun bt218 => ((strength_Read.f bt218.1 bt218.2).bind fun t220 => (if t220 = 1 then ((strength_Name.f 5 true).bind fun t221 => (if t221.toList = ([112, 117, 108, 108, 49] : List UInt8) then (if t165 = 0 then (if t166 = true then (none) else (some t167)) else (none)) else (none))) else (none)))) else (none)))) else (none)))) else (none)))))) else (none)))) else (none))))) else (none)) = some r := H
    have A13 := Aside0.mk A130
    clear A130
    by_cases c14 : t188 = 2
    ·rw [if_pos c14] at H
     have c14b0 : (t188 == 2) = true := beq_iff_eq.mpr c14
     have c14b1 : (t188 != 2) = false := bne_eq_false_iff_eq.mpr c14
     clear c14
     replace H := Option.bind_eq_some_iff.mp H
     obtain ⟨⟨t189, t190⟩, A150, H⟩ := H
     replace H : ((strength_Combine.f k (([(⟨t175, t176⟩ : S26), (⟨t189, t190⟩ : S26)] : List (S26)))).bind fun bt194 => ((netlablaw02_to.f 6 6).bind fun bt196 => (if (bt194.1 == bt196.1 && (bt194.2 == bt196.2)) = true then ((netlablaw02_to.f 6 6).bind fun bt198 => ((strength_Read.f bt198.1 bt198.2).bind fun t200 => (if t200 = 1 then ((netlablaw02_to.f 3 5).bind fun bt201 => ((netlablaw02_to.f (-4) (-4)).bind fun bt203 => ((strength_Combine.f k (([(⟨bt201.1, bt201.2⟩ : S26), (⟨bt203.1, bt203.2⟩ : S26)] : List (S26)))).bind fun bt208 => ((netlablaw02_to.f (-4) 5).bind fun bt210 => (if (bt208.1 == bt210.1 && (bt208.2 == bt210.2)) = true then ((netlablaw02_to.f 0 0).bind fun bt212 => ((strength_Read.f bt212.1 bt212.2).bind fun t214 => (if t214 = 3 then ((netlablaw02_to.f 0 3).bind fun bt215 => ((strength_Read.f bt215.1 bt215.2).bind fun t217 => (if t217 = 2 then ((netlablaw02_to.f 1 3).bind fun bt218 => ((strength_Read.f bt218.1 bt218.2).bind fun t220 => (if t220 = 1 then ((strength_Name.f 5 true).bind fun t221 => (if t221.toList = ([112, 117, 108, 108, 49] : List UInt8) then (if t165 = 0 then (if t166 = true then (none) else (some t167)) else (none)) else (none))) else (none)))) else (none)))) else (none)))) else (none)))))) else (none)))) else (none)))) = some r := H
     have A15 := Aside0.mk A150
     clear A150
     obtain ⟨y191, hy191⟩ : ∃ y_ : List (S26), y_ = (([(⟨t175, t176⟩ : S26), (⟨t189, t190⟩ : S26)] : List (S26))) := ⟨_, rfl⟩
     replace H : ((strength_Combine.f k y191).bind fun bt194 => ((netlablaw02_to.f 6 6).bind fun bt196 => (if (bt194.1 == bt196.1 && (bt194.2 == bt196.2)) = true then ((netlablaw02_to.f 6 6).bind fun bt198 => ((strength_Read.f bt198.1 bt198.2).bind fun t200 => (if t200 = 1 then ((netlablaw02_to.f 3 5).bind fun bt201 => ((netlablaw02_to.f (-4) (-4)).bind fun bt203 => ((strength_Combine.f k (([(⟨bt201.1, bt201.2⟩ : S26), (⟨bt203.1, bt203.2⟩ : S26)] : List (S26)))).bind fun bt208 => ((netlablaw02_to.f (-4) 5).bind fun bt210 => (if (bt208.1 == bt210.1 && (bt208.2 == bt210.2)) = true then ((netlablaw02_to.f 0 0).bind fun bt212 => ((strength_Read.f bt212.1 bt212.2).bind fun t214 => (if t214 = 3 then ((netlablaw02_to.f 0 3).bind fun bt215 => ((strength_Read.f bt215.1 bt215.2).bind fun t217 => (if t217 = 2 then ((netlablaw02_to.f 1 3).bind fun bt218 => ((strength_Read.f bt218.1 bt218.2).bind fun t220 => (if t220 = 1 then ((strength_Name.f 5 true).bind fun t221 => (if t221.toList = ([112, 117, 108, 108, 49] : List UInt8) then (if t165 = 0 then (if t166 = true then (none) else (some t167)) else (none)) else (none))) else (none)))) else (none)))) else (none)))) else (none)))))) else (none)))) else (none)))) = some r := by first | (rw [hy191]; with_reducible exact H) | (have H2_ := (Option.bind_some _ _).symm.trans H; rw [hy191]; with_reducible exact H2_) | (have H2_ := (Option.bind_some _ _).symm.trans H; with_reducible exact H2_) | with_reducible exact H | (rw [hy191]; exact H) | exact H
     have Ny191 := Aside0.mk hy191
     clear hy191
     replace H := Option.bind_eq_some_iff.mp H
     obtain ⟨⟨t194, t195⟩, A160, H⟩ := H
     replace H : ((netlablaw02_to.f 6 6).bind fun bt196 => (if (t194 == bt196.1 && (t195 == bt196.2)) = true then ((netlablaw02_to.f 6 6).bind fun bt198 => ((strength_Read.f bt198.1 bt198.2).bind fun t200 => (if t200 = 1 then ((netlablaw02_to.f 3 5).bind fun bt201 => ((netlablaw02_to.f (-4) (-4)).bind fun bt203 => ((strength_Combine.f k (([(⟨bt201.1, bt201.2⟩ : S26), (⟨bt203.1, bt203.2⟩ : S26)] : List (S26)))).bind fun bt208 => ((netlablaw02_to.f (-4) 5).bind fun bt210 => (if (bt208.1 == bt210.1 && (bt208.2 == bt210.2)) = true then ((netlablaw02_to.f 0 0).bind fun bt212 => ((strength_Read.f bt212.1 bt212.2).bind fun t214 => (if t214 = 3 then ((netlablaw02_to.f 0 3).bind fun bt215 => ((strength_Read.f bt215.1 bt215.2).bind fun t217 => (if t217 = 2 then ((netlablaw02_to.f 1 3).bind fun bt218 => ((strength_Read.f bt218.1 bt218.2).bind fun t220 => (if t220 = 1 then ((strength_Name.f 5 true).bind fun t221 => (if t221.toList = ([112, 117, 108, 108, 49] : List UInt8) then (if t165 = 0 then (if t166 = true then (none) else (some t167)) else (none)) else (none))) else (none)))) else (none)))) else (none)))) else (none)))))) else (none)))) else (none))) = some r := H
     have A16 := Aside0.mk A160
     clear A160
     replace H := Option.bind_eq_some_iff.mp H
     obtain ⟨⟨t196, t197⟩, A170, H⟩ := H
     replace H : (if (t194 == t196 && (t195 == t197)) = true then ((netlablaw02_to.f 6 6).bind fun bt198 => ((strength_Read.f bt198.1 bt198.2).bind fun t200 => (if t200 = 1 then ((netlablaw02_to.f 3 5).bind fun bt201 => ((netlablaw02_to.f (-4) (-4)).bind fun bt203 => ((strength_Combine.f k (([(⟨bt201.1, bt201.2⟩ : S26), (⟨bt203.1, bt203.2⟩ : S26)] : List (S26)))).bind fun bt208 => ((netlablaw02_to.f (-4) 5).bind fun bt210 => (if (bt208.1 == bt210.1 && (bt208.2 == bt210.2)) = true then ((netlablaw02_to.f 0 0).bind fun bt212 => ((strength_Read.f bt212.1 bt212.2).bind fun t214 => (if t214 = 3 then ((netlablaw02_to.f 0 3).bind fun bt215 => ((strength_Read.f bt215.1 bt215.2).bind fun t217 => (if t217 = 2 then ((netlablaw02_to.f 1 3).bind fun bt218 => ((strength_Read.f bt218.1 bt218.2).bind fun t220 => (if t220 = 1 then ((strength_Name.f 5 true).bind fun t221 => (if t221.toList = ([112, 117, 108, 108, 49] : List UInt8) then (if t165 = 0 then (if t166 = true then (none) else (some t167)) else (none)) else (none))) else (none)))) else (none)))) else (none)))) else (none)))))) else (none)))) else (none)) = some r := H
     have A17 := Aside0.mk A170
     clear A170
     by_cases c18 : (t194 == t196 && (t195 == t197)) = true
     ·rw [if_pos c18] at H
      have c18b0 : (t194 == t196 && (t195 == t197)) = true := c18
      (try (have c18b1 : decide (t194 = t196 && (t195 == t197)) = true := by simpa using c18))
      (try (have c18b2 : (t194 == t196 && (t195 == t197)) = true := by simpa using c18))
      clear c18
      replace H := Option.bind_eq_some_iff.mp H
      obtain ⟨⟨t198, t199⟩, A190, H⟩ := H
      replace H : ((strength_Read.f t198 t199).bind fun t200 => (if t200 = 1 then ((netlablaw02_to.f 3 5).bind fun bt201 => ((netlablaw02_to.f (-4) (-4)).bind fun bt203 => ((strength_Combine.f k (([(⟨bt201.1, bt201.2⟩ : S26), (⟨bt203.1, bt203.2⟩ : S26)] : List (S26)))).bind fun bt208 => ((netlablaw02_to.f (-4) 5).bind fun bt210 => (if (bt208.1 == bt210.1 && (bt208.2 == bt210.2)) = true then ((netlablaw02_to.f 0 0).bind fun bt212 => ((strength_Read.f bt212.1 bt212.2).bind fun t214 => (if t214 = 3 then ((netlablaw02_to.f 0 3).bind fun bt215 => ((strength_Read.f bt215.1 bt215.2).bind fun t217 => (if t217 = 2 then ((netlablaw02_to.f 1 3).bind fun bt218 => ((strength_Read.f bt218.1 bt218.2).bind fun t220 => (if t220 = 1 then ((strength_Name.f 5 true).bind fun t221 => (if t221.toList = ([112, 117, 108, 108, 49] : List UInt8) then (if t165 = 0 then (if t166 = true then (none) else (some t167)) else (none)) else (none))) else (none)))) else (none)))) else (none)))) else (none)))))) else (none))) = some r := H
      have A19 := Aside0.mk A190
      clear A190
      replace H := Option.bind_eq_some_iff.mp H
      obtain ⟨t200, A200, H⟩ := H
      replace H : (if t200 = 1 then ((netlablaw02_to.f 3 5).bind fun bt201 => ((netlablaw02_to.f (-4) (-4)).bind fun bt203 => ((strength_Combine.f k (([(⟨bt201.1, bt201.2⟩ : S26), (⟨bt203.1, bt203.2⟩ : S26)] : List (S26)))).bind fun bt208 => ((netlablaw02_to.f (-4) 5).bind fun bt210 => (if (bt208.1 == bt210.1 && (bt208.2 == bt210.2)) = true then ((netlablaw02_to.f 0 0).bind fun bt212 => ((strength_Read.f bt212.1 bt212.2).bind fun t214 => (if t214 = 3 then ((netlablaw02_to.f 0 3).bind fun bt215 => ((strength_Read.f bt215.1 bt215.2).bind fun t217 => (if t217 = 2 then ((netlablaw02_to.f 1 3).bind fun bt218 => ((strength_Read.f bt218.1 bt218.2).bind fun t220 => (if t220 = 1 then ((strength_Name.f 5 true).bind fun t221 => (if t221.toList = ([112, 117, 108, 108, 49] : List UInt8) then (if t165 = 0 then (if t166 = true then (none) else (some t167)) else (none)) else (none))) else (none)))) else (none)))) else (none)))) else (none)))))) else (none)) = some r := H
      have A20 := Aside0.mk A200
      clear A200
      by_cases c21 : t200 = 1
      ·rw [if_pos c21] at H
       have c21b0 : (t200 == 1) = true := beq_iff_eq.mpr c21
       have c21b1 : (t200 != 1) = false := bne_eq_false_iff_eq.mpr c21
       clear c21
       replace H := Option.bind_eq_some_iff.mp H
       obtain ⟨⟨t201, t202⟩, A220, H⟩ := H
       replace H : ((netlablaw02_to.f (-4) (-4)).bind fun bt203 => ((strength_Combine.f k (([(⟨t201, t202⟩ : S26), (⟨bt203.1, bt203.2⟩ : S26)] : List (S26)))).bind fun bt208 => ((netlablaw02_to.f (-4) 5).bind fun bt210 => (if (bt208.1 == bt210.1 && (bt208.2 == bt210.2)) = true then ((netlablaw02_to.f 0 0).bind fun bt212 => ((strength_Read.f bt212.1 bt212.2).bind fun t214 => (if t214 = 3 then ((netlablaw02_to.f 0 3).bind fun bt215 => ((strength_Read.f bt215.1 bt215.2).bind fun t217 => (if t217 = 2 then ((netlablaw02_to.f 1 3).bind fun bt218 => ((strength_Read.f bt218.1 bt218.2).bind fun t220 => (if t220 = 1 then ((strength_Name.f 5 true).bind fun t221 => (if t221.toList = ([112, 117, 108, 108, 49] : List UInt8) then (if t165 = 0 then (if t166 = true then (none) else (some t167)) else (none)) else (none))) else (none)))) else (none)))) else (none)))) else (none))))) = some r := H
       have A22 := Aside0.mk A220
       clear A220
       replace H := Option.bind_eq_some_iff.mp H
       obtain ⟨⟨t203, t204⟩, A230, H⟩ := H
       replace H : ((strength_Combine.f k (([(⟨t201, t202⟩ : S26), (⟨t203, t204⟩ : S26)] : List (S26)))).bind fun bt208 => ((netlablaw02_to.f (-4) 5).bind fun bt210 => (if (bt208.1 == bt210.1 && (bt208.2 == bt210.2)) = true then ((netlablaw02_to.f 0 0).bind fun bt212 => ((strength_Read.f bt212.1 bt212.2).bind fun t214 => (if t214 = 3 then ((netlablaw02_to.f 0 3).bind fun bt215 => ((strength_Read.f bt215.1 bt215.2).bind fun t217 => (if t217 = 2 then ((netlablaw02_to.f 1 3).bind fun bt218 => ((strength_Read.f bt218.1 bt218.2).bind fun t220 => (if t220 = 1 then ((strength_Name.f 5 true).bind fun t221 => (if t221.toList = ([112, 117, 108, 108, 49] : List UInt8) then (if t165 = 0 then (if t166 = true then (none) else (some t167)) else (none)) else (none))) else (none)))) else (none)))) else (none)))) else (none)))) = some r := H
       have A23 := Aside0.mk A230
       clear A230
       obtain ⟨y205, hy205⟩ : ∃ y_ : List (S26), y_ = (([(⟨t201, t202⟩ : S26), (⟨t203, t204⟩ : S26)] : List (S26))) := ⟨_, rfl⟩
       replace H : ((strength_Combine.f k y205).bind fun bt208 => ((netlablaw02_to.f (-4) 5).bind fun bt210 => (if (bt208.1 == bt210.1 && (bt208.2 == bt210.2)) = true then ((netlablaw02_to.f 0 0).bind fun bt212 => ((strength_Read.f bt212.1 bt212.2).bind fun t214 => (if t214 = 3 then ((netlablaw02_to.f 0 3).bind fun bt215 => ((strength_Read.f bt215.1 bt215.2).bind fun t217 => (if t217 = 2 then ((netlablaw02_to.f 1 3).bind fun bt218 => ((strength_Read.f bt218.1 bt218.2).bind fun t220 => (if t220 = 1 then ((strength_Name.f 5 true).bind fun t221 => (if t221.toList = ([112, 117, 108, 108, 49] : List UInt8) then (if t165 = 0 then (if t166 = true then (none) else (some t167)) else (none)) else (none))) else (none)))) else (none)))) else (none)))) else (none)))) = some r := by first | (rw [hy205]; with_reducible exact H) | (have H2_ := (Option.bind_some _ _).symm.trans H; rw [hy205]; with_reducible exact H2_) | (have H2_ := (Option.bind_some _ _).symm.trans H; with_reducible exact H2_) | with_reducible exact H | (rw [hy205]; exact H) | exact H
       have Ny205 := Aside0.mk hy205
       clear hy205
       replace H := Option.bind_eq_some_iff.mp H
       obtain ⟨⟨t208, t209⟩, A240, H⟩ := H
       replace H : ((netlablaw02_to.f (-4) 5).bind fun bt210 => (if (t208 == bt210.1 && (t209 == bt210.2)) = true then ((netlablaw02_to.f 0 0).bind fun bt212 => ((strength_Read.f bt212.1 bt212.2).bind fun t214 => (if t214 = 3 then ((netlablaw02_to.f 0 3).bind fun bt215 => ((strength_Read.f bt215.1 bt215.2).bind fun t217 => (if t217 = 2 then ((netlablaw02_to.f 1 3).bind fun bt218 => ((strength_Read.f bt218.1 bt218.2).bind fun t220 => (if t220 = 1 then ((strength_Name.f 5 true).bind fun t221 => (if t221.toList = ([112, 117, 108, 108, 49] : List UInt8) then (if t165 = 0 then (if t166 = true then (none) else (some t167)) else (none)) else (none))) else (none)))) else (none)))) else (none)))) else (none))) = some r := H
       have A24 := Aside0.mk A240
       clear A240
       replace H := Option.bind_eq_some_iff.mp H
       obtain ⟨⟨t210, t211⟩, A250, H⟩ := H
       replace H : (if (t208 == t210 && (t209 == t211)) = true then ((netlablaw02_to.f 0 0).bind fun bt212 => ((strength_Read.f bt212.1 bt212.2).bind fun t214 => (if t214 = 3 then ((netlablaw02_to.f 0 3).bind fun bt215 => ((strength_Read.f bt215.1 bt215.2).bind fun t217 => (if t217 = 2 then ((netlablaw02_to.f 1 3).bind fun bt218 => ((strength_Read.f bt218.1 bt218.2).bind fun t220 => (if t220 = 1 then ((strength_Name.f 5 true).bind fun t221 => (if t221.toList = ([112, 117, 108, 108, 49] : List UInt8) then (if t165 = 0 then (if t166 = true then (none) else (some t167)) else (none)) else (none))) else (none)))) else (none)))) else (none)))) else (none)) = some r := H
       have A25 := Aside0.mk A250
       clear A250
       by_cases c26 : (t208 == t210 && (t209 == t211)) = true
       ·rw [if_pos c26] at H
        have c26b0 : (t208 == t210 && (t209 == t211)) = true := c26
        (try (have c26b1 : decide (t208 = t210 && (t209 == t211)) = true := by simpa using c26))
        (try (have c26b2 : (t208 == t210 && (t209 == t211)) = true := by simpa using c26))
        clear c26
        replace H := Option.bind_eq_some_iff.mp H
        obtain ⟨⟨t212, t213⟩, A270, H⟩ := H
        replace H : ((strength_Read.f t212 t213).bind fun t214 => (if t214 = 3 then ((netlablaw02_to.f 0 3).bind fun bt215 => ((strength_Read.f bt215.1 bt215.2).bind fun t217 => (if t217 = 2 then ((netlablaw02_to.f 1 3).bind fun bt218 => ((strength_Read.f bt218.1 bt218.2).bind fun t220 => (if t220 = 1 then ((strength_Name.f 5 true).bind fun t221 => (if t221.toList = ([112, 117, 108, 108, 49] : List UInt8) then (if t165 = 0 then (if t166 = true then (none) else (some t167)) else (none)) else (none))) else (none)))) else (none)))) else (none))) = some r := H
        have A27 := Aside0.mk A270
        clear A270
        replace H := Option.bind_eq_some_iff.mp H
        obtain ⟨t214, A280, H⟩ := H
        replace H : (if t214 = 3 then ((netlablaw02_to.f 0 3).bind fun bt215 => ((strength_Read.f bt215.1 bt215.2).bind fun t217 => (if t217 = 2 then ((netlablaw02_to.f 1 3).bind fun bt218 => ((strength_Read.f bt218.1 bt218.2).bind fun t220 => (if t220 = 1 then ((strength_Name.f 5 true).bind fun t221 => (if t221.toList = ([112, 117, 108, 108, 49] : List UInt8) then (if t165 = 0 then (if t166 = true then (none) else (some t167)) else (none)) else (none))) else (none)))) else (none)))) else (none)) = some r := H
        have A28 := Aside0.mk A280
        clear A280
        by_cases c29 : t214 = 3
        ·rw [if_pos c29] at H
         have c29b0 : (t214 == 3) = true := beq_iff_eq.mpr c29
         have c29b1 : (t214 != 3) = false := bne_eq_false_iff_eq.mpr c29
         clear c29
         replace H := Option.bind_eq_some_iff.mp H
         obtain ⟨⟨t215, t216⟩, A300, H⟩ := H
         replace H : ((strength_Read.f t215 t216).bind fun t217 => (if t217 = 2 then ((netlablaw02_to.f 1 3).bind fun bt218 => ((strength_Read.f bt218.1 bt218.2).bind fun t220 => (if t220 = 1 then ((strength_Name.f 5 true).bind fun t221 => (if t221.toList = ([112, 117, 108, 108, 49] : List UInt8) then (if t165 = 0 then (if t166 = true then (none) else (some t167)) else (none)) else (none))) else (none)))) else (none))) = some r := H
         have A30 := Aside0.mk A300
         clear A300
         replace H := Option.bind_eq_some_iff.mp H
         obtain ⟨t217, A310, H⟩ := H
         replace H : (if t217 = 2 then ((netlablaw02_to.f 1 3).bind fun bt218 => ((strength_Read.f bt218.1 bt218.2).bind fun t220 => (if t220 = 1 then ((strength_Name.f 5 true).bind fun t221 => (if t221.toList = ([112, 117, 108, 108, 49] : List UInt8) then (if t165 = 0 then (if t166 = true then (none) else (some t167)) else (none)) else (none))) else (none)))) else (none)) = some r := H
         have A31 := Aside0.mk A310
         clear A310
         by_cases c32 : t217 = 2
         ·rw [if_pos c32] at H
          have c32b0 : (t217 == 2) = true := beq_iff_eq.mpr c32
          have c32b1 : (t217 != 2) = false := bne_eq_false_iff_eq.mpr c32
          clear c32
          replace H := Option.bind_eq_some_iff.mp H
          obtain ⟨⟨t218, t219⟩, A330, H⟩ := H
          replace H : ((strength_Read.f t218 t219).bind fun t220 => (if t220 = 1 then ((strength_Name.f 5 true).bind fun t221 => (if t221.toList = ([112, 117, 108, 108, 49] : List UInt8) then (if t165 = 0 then (if t166 = true then (none) else (some t167)) else (none)) else (none))) else (none))) = some r := H
          have A33 := Aside0.mk A330
          clear A330
          replace H := Option.bind_eq_some_iff.mp H
          obtain ⟨t220, A340, H⟩ := H
          replace H : (if t220 = 1 then ((strength_Name.f 5 true).bind fun t221 => (if t221.toList = ([112, 117, 108, 108, 49] : List UInt8) then (if t165 = 0 then (if t166 = true then (none) else (some t167)) else (none)) else (none))) else (none)) = some r := H
          have A34 := Aside0.mk A340
          clear A340
          by_cases c35 : t220 = 1
          ·rw [if_pos c35] at H
           have c35b0 : (t220 == 1) = true := beq_iff_eq.mpr c35
           have c35b1 : (t220 != 1) = false := bne_eq_false_iff_eq.mpr c35
           clear c35
           replace H := Option.bind_eq_some_iff.mp H
           obtain ⟨t221, A360, H⟩ := H
           replace H : (if t221.toList = ([112, 117, 108, 108, 49] : List UInt8) then (if t165 = 0 then (if t166 = true then (none) else (some t167)) else (none)) else (none)) = some r := H
           have A36 := Aside0.mk A360
           clear A360
           by_cases c37 : t221.toList = ([112, 117, 108, 108, 49] : List UInt8)
           ·rw [if_pos c37] at H
            have c37b0 : (t221.toList == ([112, 117, 108, 108, 49] : List UInt8)) = true := beq_iff_eq.mpr c37
            have c37b1 : (t221.toList != ([112, 117, 108, 108, 49] : List UInt8)) = false := bne_eq_false_iff_eq.mpr c37
            clear c37
            by_cases c38 : t165 = 0
            ·rw [if_pos c38] at H
             have c38b0 : (t165 == 0) = true := beq_iff_eq.mpr c38
             have c38b1 : (t165 != 0) = false := bne_eq_false_iff_eq.mpr c38
             clear c38
             by_cases c39 : t166 = true
             ·subst c39
              have H1 : (none) = some r := by rw [if_pos rfl] at H; exact H
              clear H
              have H := H1
              clear H1
              exact absurd H (by simp)
             ·replace c39 := Bool.eq_false_iff.mpr c39
              subst c39
              have H1 : (some t167) = some r := by rw [if_neg (show ¬ (false = true) by decide)] at H; exact H
              clear H
              have H := H1
              clear H1
              obtain rfl := Option.some.inj H
              go_enter Tryd.func17, Tryd.ntmps17
              try go_wp2_with (first | ((with_reducible refine gate_callee (f := 18) rfl ?_); refine goesL_ (some 6) rfl rfl Tryd.func18 (by kernel_rfl) rfl #[.string (⟨#[104, 105, 103, 104, 122, 48]⟩ : ByteArray)] rfl (by (try simp only [List.map_toArray, List.map_cons, List.map_nil]); first | done | rfl | (simp only [List.length_drop, List.length_take]; rfl)) ?_; (with_reducible refine (strength_Parse.calls (⟨#[104, 105, 103, 104, 122, 48]⟩ : ByteArray) t165 false t167 _ (Glob.below HG.out (by repeat (first | (with_reducible first | exact HB.out | apply below_alloc | apply pw_below_drewN | apply below_drew1) | exact HB.out))) A1.out).mono ?_); rintro e w' ⟨rfl, ⟨nd, rfl⟩⟩; refine ⟨_, rfl, ?_⟩) | ((with_reducible refine gate_callee (f := 21) rfl ?_); refine goesL_ (some 10) rfl rfl Tryd.func21 (by kernel_rfl) rfl #[.int .i8 5, .int .i8 5] rfl (by (try simp only [List.map_toArray, List.map_cons, List.map_nil]); first | done | rfl | (simp only [List.length_drop, List.length_take]; rfl)) ?_; (with_reducible refine (netlablaw02_to.calls 5 5 t168 t169 _ A2.out).mono ?_); rintro e w40 ⟨rfl, hb⟩; refine ⟨_, rfl, ?_⟩; have n0_ := Aside0.mk (below_step (by repeat (first | (with_reducible first | exact HB.out | apply below_alloc | apply pw_below_drewN | apply below_drew1) | exact HB.out)) hb); clear HB; have HB := n0_; clear n0_; (try clear hb); (try clear hb2); (try clear hk); (try clear hi)) | ((with_reducible refine gate_callee (f := 21) rfl ?_); refine goesL_ (some 11) rfl rfl Tryd.func21 (by kernel_rfl) rfl #[.int .i8 (-5), .int .i8 (-5)] rfl (by (try simp only [List.map_toArray, List.map_cons, List.map_nil]); first | done | rfl | (simp only [List.length_drop, List.length_take]; rfl)) ?_; (with_reducible refine (netlablaw02_to.calls (-5) (-5) t170 t171 _ A3.out).mono ?_); rintro e w41 ⟨rfl, hb⟩; refine ⟨_, rfl, ?_⟩; have n0_ := Aside0.mk (below_step (by repeat (first | (with_reducible first | exact HB.out | apply below_alloc | apply pw_below_drewN | apply below_drew1) | exact HB.out)) hb); clear HB; have HB := n0_; clear n0_; (try clear hb); (try clear hb2); (try clear hk); (try clear hi)) | ((with_reducible refine gate_dst (N := 12) rfl ?_); (try (refine gate_guard (by rfl) ?_; dsimp only)); refine Kd.R_lit k26 _ 26 ?hg (N := 12) ?hd (xs := ([(⟨t168, t169⟩ : S26), (⟨t170, t171⟩ : S26)] : List (S26))) (inner := [.int .i8 t168, .int .i8 t169, .int .i8 t170, .int .i8 t171]) (ok := fun _ => True) (okp := fun _ => True) ?hr ?hp (fun _ hk => hk) trivial (Below.refl _ _) (Nat.le_refl _) (by simp) ?_; (case hd => rfl); (case hg => rfl); (case hr => first | (go_simp; done) | (go_simp; rfl)); (case hp => exact (Reps.c2 (show Kd.M k26 _ _ _ (⟨t168, t169⟩ : S26) [.int .i8 t168, .int .i8 t169] from (k26_mkM _ _ _ (⟨t168, t169⟩ : S26) )) (Reps.c2 (show Kd.M k26 _ _ _ (⟨t170, t171⟩ : S26) [.int .i8 t170, .int .i8 t171] from (k26_mkM _ _ _ (⟨t170, t171⟩ : S26) )) (Reps.none _ _)))); intro v173 w42 ho43 hb hg_ hnew_; clear hg_ hnew_; (first | rw [← Ny172.out] at ho43 | (simp only [Int.reduceToNat] at ho43; rw [← Ny172.out] at ho43)); have n0_ := Aside0.mk (Kd.R_lower ho43 (below_size (by repeat (first | (with_reducible first | exact HB.out | apply below_alloc | apply pw_below_drewN | apply below_drew1) | exact HB.out)))); have n1_ := Aside0.mk (below_step (by repeat (first | (with_reducible first | exact HB.out | apply below_alloc | apply pw_below_drewN | apply below_drew1) | exact HB.out)) hb); clear HB; have HO174 := n0_; have HB := n1_; clear n0_ n1_; clear hb ho43; obtain ⟨Ao44, co44, eo44⟩ := Kd.R_slice HO174.out; subst eo44) | ((with_reducible refine gate_callee (f := 20) rfl ?_); refine goesL_ (some 13) rfl rfl Tryd.func20 (by kernel_rfl) rfl #[.slice Ao44 y172.length co44] rfl (by (try simp only [List.map_toArray, List.map_cons, List.map_nil]); first | done | rfl | (simp only [List.length_drop, List.length_take]; rfl)) ?_; (with_reducible refine (strength_Combine.calls k _ _ y172 t175 t176 _ ?side1 ?side2 A4.out).mono ?_); (case side1 => repeat (first | exact (Kd.R_reads' HO174.out).2.2 | (with_reducible refine Kd.C_alloc ?_ _) | (with_reducible refine Kd.C_drewN ?_ _) | (with_reducible refine Kd.C_drew ?_))); (case side2 => exact (Kd.R_reads' HO174.out).2.1); rintro e w45 ⟨rfl, hb⟩; refine ⟨_, rfl, ?_⟩; have n0_ := Aside0.mk (Kd.R_below (by (with_reducible repeat (first | apply Kd.R_alloc | apply Kd.R_drewN | apply Kd.R_drew)); exact HO174.out) hb); have n1_ := Aside0.mk (below_step (by repeat (first | (with_reducible first | exact HB.out | apply below_alloc | apply pw_below_drewN | apply below_drew1) | exact HB.out)) hb); clear HO174; clear HB; have HO174 := n0_; have HB := n1_; clear n0_ n1_; (try clear hb); (try clear hb2); (try clear hk); (try clear hi)) | ((with_reducible refine gate_dst (N := 4) rfl ?_); (try (refine gate_guard (by rfl) ?_; dsimp only)); refine box_event ?hg (N := 4) ?hd (cs := #[.int .i8 0, .int .i8 0]) (t := 26) ?hr ?_; (case hd => rfl); (case hg => rfl); (case hr => first | (go_simp; done) | (go_simp; rfl)); intro gb177 hg w46 hbox hb; have n0_ := Aside0.mk (Kd.R_below (Kd.R_elderB (by (with_reducible repeat (first | apply Kd.R_alloc | apply Kd.R_drewN | apply Kd.R_drew)); exact HO174.out) gb177 (Nat.le_of_eq hg.symm)) hb); have n1_ := Aside0.mk (below_step (by repeat (first | (with_reducible first | exact HB.out | apply below_alloc | apply pw_below_drewN | apply below_drew1) | exact HB.out)) hb); have n2_ := Aside0.mk (hbox); have n3_ := Aside0.mk ((by rw [hg]; exact (below_size (by repeat (first | (with_reducible first | exact HB.out | apply below_alloc | apply pw_below_drewN | apply below_drew1) | exact HB.out))) : w.heap.size ≤ gb177)); have n4_ := Aside0.mk ((by rw [hg]; exact (below_size (by repeat (first | (with_reducible first | exact HB.out | apply below_alloc | apply pw_below_drewN | apply below_drew1) | exact HB.out))) : w.heap.size ≤ gb177)); clear HO174; clear HB; have HO174 := n0_; have HB := n1_; have BK177 := n2_; have GW177 := n3_; have GE177 := n4_; clear n0_ n1_ n2_ n3_ n4_; clear hb hbox hg; have hcz47_0 : w46.cell? ⟨gb177, 0, none⟩ = some (.int .i8 0) := (blk_cell BK177.out 0).trans rfl; have hcz47_1 : w46.cell? ⟨gb177, 1, none⟩ = some (.int .i8 0) := (blk_cell BK177.out 1).trans rfl; have hfz47_0 := blk_frozen BK177.out 0; have hfz47_1 := blk_frozen BK177.out 1))
              have n0_ : Aside0 (Kd.R k26 26 ((w46.setCell ⟨gb177, 0, none⟩ (.int .i8 t175)).setCell ⟨gb177, 1, none⟩ (.int .i8 t176)) w.heap.size (fun k_ => k_ ≠ gb177) (.slice Ao44 y172.length co44) y172) := ⟨by (with_reducible repeat (first | apply Kd.R_alloc | apply Kd.R_drewN | apply Kd.R_drew)); exact Kd.R_mono (Kd.R_far (p := ⟨gb177, 1, none⟩) (Kd.R_far (p := ⟨gb177, 0, none⟩) (Kd.R_mono HO174.out (fun k_ hk => (⟨hk, hk.2⟩ : _ ∧ k_ ≠ gb177))) (fun _ hk => hk.2) (.int .i8 t175)) (fun _ hk => hk.2) (.int .i8 t176)) (fun _ hk => hk.1.2)⟩
              have n1_ : Aside0 (((w46.setCell ⟨gb177, 0, none⟩ (.int .i8 t175)).setCell ⟨gb177, 1, none⟩ (.int .i8 t176)).heap[gb177]? = some (.cells #[.int .i8 t175, .int .i8 t176] 26 (0, 0))) := ⟨by (with_reducible repeat first | apply bN | apply bD | apply bA); refine blk_put (cs := #[.int .i8 t175, .int .i8 0]) ?_ 1 _ rfl; (with_reducible repeat first | apply bN | apply bD | apply bA); refine blk_put (cs := #[.int .i8 0, .int .i8 0]) ?_ 0 _ rfl; (with_reducible repeat first | apply bN | apply bD | apply bA); exact BK177.out⟩
              have n2_ : Aside0 (Below w.heap.size w ((w46.setCell ⟨gb177, 0, none⟩ (.int .i8 t175)).setCell ⟨gb177, 1, none⟩ (.int .i8 t176))) := ⟨by repeat (first | (with_reducible first | exact HB.out | apply below_alloc | apply pw_below_drewN | apply below_drew1 | refine below_set ?_ GE177.out) | exact HB.out)⟩
              (try clear HO174)
              (try clear BK177)
              (try clear HB)
              generalize ((w46.setCell ⟨gb177, 0, none⟩ (.int .i8 t175)).setCell ⟨gb177, 1, none⟩ (.int .i8 t176)) = w48 at n0_ n1_ n2_ ⊢
              have HO174 := n0_
              have BK177 := n1_
              have HB := n2_
              clear n0_ n1_ n2_
              have n0_ := Aside0.mk (Kd.R_drew HO174.out)
              have n1_ := Aside0.mk (blk_drew BK177.out)
              have n2_ := Aside0.mk (below_drew1 HB.out)
              clear HO174
              clear BK177
              clear HB
              have HO174 := n0_
              have BK177 := n1_
              have HB := n2_
              clear n0_ n1_ n2_
              refine start_ (n := 70) (S := fun w' => w'.cell? ⟨gb177, 0, none⟩ = some (.int .i8 t175) ∧ w'.cell? ⟨gb177, 1, none⟩ = some (.int .i8 t176)) (ds := []) #[false, false, false, false, false, false, false, false, false, false, false, false, false, false, false, false, false, false, false, false, false, false, false, false, false, false, false, false, false, false, false, false, false, false, false, false, false, false, false, false, false, false, false, false, false, false, false, false, false, false, false, false, false, false, false, false, false, false, false, false, false, false, false, false, false, false, false, false, false, false] (by kernel_rfl) rfl rfl ⟨(blk_cell BK177.out 0).trans rfl, (blk_cell BK177.out 1).trans rfl⟩ (fun hHeld => ?_); refine with_tabW netlablaw02_awake.tab3 netlablaw02_awake.bits3 (fun HT_ HW_ => ?_)
              generalize w48.drew = w49 at HO174 BK177 HB hHeld ⊢
              refine one_ (i := 0) (N := some 14) #[true, false, false, false, false, false, false, false, false, false, false, false, false, false, false, false, false, false, false, false, false, false, false, false, false, false, false, false, false, false, false, false, false, false, false, false, false, false, false, false, false, false, false, false, false, false, false, false, false, false, false, false, false, false, false, false, false, false, false, false, false, false, false, false, false, false, false, false, false, false] rfl rfl (one_of HT_.out (by kernel_rfl)) (by decide) (fun K hK => ?_)
              refine goes_ Tryd.func13 (by kernel_rfl) rfl #[.int .u8 1, .int .u8 6, .int .u8 5] (by rfl) rfl rfl (by (try simp only [List.map_toArray, List.map_cons, List.map_nil]); first | done | rfl | (simp only [List.length_drop, List.length_take]; rfl)) ?_
              with_reducible refine (strength_Drive.calls 1 6 5 t178 t179 _ A5.out).mono ?_
              rintro e w50 ⟨rfl, hb⟩
              refine ⟨_, rfl, ?_⟩
              have n0_ := Aside0.mk (Kd.R_below (by (with_reducible repeat (first | apply Kd.R_alloc | apply Kd.R_drewN | apply Kd.R_drew)); exact HO174.out) hb)
              have n1_ := Aside0.mk (blk_below (g := gb177) (o := .cells #[.int .i8 t175, .int .i8 t176] 26 (0, 0)) (by (with_reducible repeat first | apply bN | apply bD | apply bA); exact BK177.out) hb)
              have n2_ := Aside0.mk (below_step (by repeat (first | (with_reducible first | exact HB.out | apply below_alloc | apply pw_below_drewN | apply below_drew1 | refine below_set ?_ GE177.out) | exact HB.out)) hb)
              clear HO174
              clear BK177
              clear HB
              have HO174 := n0_
              have BK177 := n1_
              have HB := n2_
              clear n0_ n1_ n2_
              (try clear hb)
              (try clear hb2)
              (try clear hk)
              (try clear hi)
              refine hK.out _ _ ⟨(blk_cell BK177.out 0).trans rfl, (blk_cell BK177.out 1).trans rfl⟩ (fun hHeld => ?_)
              clear hK K
              refine norm_ (a' := ?_) ?_ ?_
              rotate_left
              ·show Act.put _ (some 14) _ = _
               simp only [Act.put, List.setIfInBounds_toArray, List.set_cons_zero, List.set_cons_succ, i64_w, i32_w]
               rfl
              refine one_ (i := 1) (N := some 15) #[true, true, false, false, false, false, false, false, false, false, false, false, false, false, false, false, false, false, false, false, false, false, false, false, false, false, false, false, false, false, false, false, false, false, false, false, false, false, false, false, false, false, false, false, false, false, false, false, false, false, false, false, false, false, false, false, false, false, false, false, false, false, false, false, false, false, false, false, false, false] rfl rfl (one_of HT_.out (by kernel_rfl)) (by decide) (fun K hK => ?_)
              refine goes_ Tryd.func21 (by kernel_rfl) rfl #[.int .i8 5, .int .i8 5] (by rfl) rfl rfl (by (try simp only [List.map_toArray, List.map_cons, List.map_nil]); first | done | rfl | (simp only [List.length_drop, List.length_take]; rfl)) ?_
              with_reducible refine (netlablaw02_to.calls 5 5 t180 t181 _ A6.out).mono ?_
              rintro e w51 ⟨rfl, hb⟩
              refine ⟨_, rfl, ?_⟩
              have n0_ := Aside0.mk (Kd.R_below (by (with_reducible repeat (first | apply Kd.R_alloc | apply Kd.R_drewN | apply Kd.R_drew)); exact HO174.out) hb)
              have n1_ := Aside0.mk (blk_below (g := gb177) (o := .cells #[.int .i8 t175, .int .i8 t176] 26 (0, 0)) (by (with_reducible repeat first | apply bN | apply bD | apply bA); exact BK177.out) hb)
              have n2_ := Aside0.mk (below_step (by repeat (first | (with_reducible first | exact HB.out | apply below_alloc | apply pw_below_drewN | apply below_drew1 | refine below_set ?_ GE177.out) | exact HB.out)) hb)
              clear HO174
              clear BK177
              clear HB
              have HO174 := n0_
              have BK177 := n1_
              have HB := n2_
              clear n0_ n1_ n2_
              (try clear hb)
              (try clear hb2)
              (try clear hk)
              (try clear hi)
              refine hK.out _ _ ⟨(blk_cell BK177.out 0).trans rfl, (blk_cell BK177.out 1).trans rfl⟩ (fun hHeld => ?_)
              clear hK K
              refine norm_ (a' := ?_) ?_ ?_
              rotate_left
              ·show Act.put _ (some 15) _ = _
               simp only [Act.put, List.setIfInBounds_toArray, List.set_cons_zero, List.set_cons_succ, i64_w, i32_w]
               rfl
              refine pure_ (i := 2) (N := some 16) (v := ?_) (a' := ?_) #[true, true, true, false, false, false, false, false, false, false, false, false, false, false, false, false, false, false, false, false, false, false, false, false, false, false, false, false, false, false, false, false, false, false, false, false, false, false, false, false, false, false, false, false, false, false, false, false, false, false, false, false, false, false, false, false, false, false, false, false, false, false, false, false, false, false, false, false, false, false] rfl rfl (any_of HT_.out (by kernel_rfl)) (fun _ _ _ h => h) (Or.inl ⟨by rfl, ?_⟩) ?_ ?_
              rotate_left
              ·intro w'
               go_simp
               with_reducible rfl
              rotate_left
              ·simp only [Act.put, List.setIfInBounds_toArray, List.set_cons_zero, List.set_cons_succ, i64_w, i32_w]
               rfl
              refine pure_ (i := 3) (N := some 17) (v := ?_) (a' := ?_) #[true, true, true, true, false, false, false, false, false, false, false, false, false, false, false, false, false, false, false, false, false, false, false, false, false, false, false, false, false, false, false, false, false, false, false, false, false, false, false, false, false, false, false, false, false, false, false, false, false, false, false, false, false, false, false, false, false, false, false, false, false, false, false, false, false, false, false, false, false, false] rfl rfl (any_of HT_.out (by kernel_rfl)) (fun _ _ _ h => h) (Or.inl ⟨by rfl, ?_⟩) ?_ ?_
              rotate_left
              ·intro w'
               go_simp
               with_reducible rfl
              rotate_left
              ·simp only [Act.put, List.setIfInBounds_toArray, List.set_cons_zero, List.set_cons_succ, i64_w, i32_w]
               rfl
              refine one_ (i := 4) (N := some 18) #[true, true, true, true, true, false, false, false, false, false, false, false, false, false, false, false, false, false, false, false, false, false, false, false, false, false, false, false, false, false, false, false, false, false, false, false, false, false, false, false, false, false, false, false, false, false, false, false, false, false, false, false, false, false, false, false, false, false, false, false, false, false, false, false, false, false, false, false, false, false] rfl rfl (one_of HT_.out (by kernel_rfl)) (by decide) (fun K hK => ?_)
              refine goes_ Tryd.func13 (by kernel_rfl) rfl #[.int .u8 2, .int .u8 6, .int .u8 5] (by rfl) rfl rfl (by (try simp only [List.map_toArray, List.map_cons, List.map_nil]); first | done | rfl | (simp only [List.length_drop, List.length_take]; rfl)) ?_
              with_reducible refine (strength_Drive.calls 2 6 5 t182 t183 _ A8.out).mono ?_
              rintro e w52 ⟨rfl, hb⟩
              refine ⟨_, rfl, ?_⟩
              have n0_ := Aside0.mk (Kd.R_below (by (with_reducible repeat (first | apply Kd.R_alloc | apply Kd.R_drewN | apply Kd.R_drew)); exact HO174.out) hb)
              have n1_ := Aside0.mk (blk_below (g := gb177) (o := .cells #[.int .i8 t175, .int .i8 t176] 26 (0, 0)) (by (with_reducible repeat first | apply bN | apply bD | apply bA); exact BK177.out) hb)
              have n2_ := Aside0.mk (below_step (by repeat (first | (with_reducible first | exact HB.out | apply below_alloc | apply pw_below_drewN | apply below_drew1 | refine below_set ?_ GE177.out) | exact HB.out)) hb)
              clear HO174
              clear BK177
              clear HB
              have HO174 := n0_
              have BK177 := n1_
              have HB := n2_
              clear n0_ n1_ n2_
              (try clear hb)
              (try clear hb2)
              (try clear hk)
              (try clear hi)
              refine hK.out _ _ ⟨(blk_cell BK177.out 0).trans rfl, (blk_cell BK177.out 1).trans rfl⟩ (fun hHeld => ?_)
              clear hK K
              refine norm_ (a' := ?_) ?_ ?_
              rotate_left
              ·show Act.put _ (some 18) _ = _
               simp only [Act.put, List.setIfInBounds_toArray, List.set_cons_zero, List.set_cons_succ, i64_w, i32_w]
               rfl
              refine one_ (i := 5) (N := some 19) #[true, true, true, true, true, true, false, false, false, false, false, false, false, false, false, false, false, false, false, false, false, false, false, false, false, false, false, false, false, false, false, false, false, false, false, false, false, false, false, false, false, false, false, false, false, false, false, false, false, false, false, false, false, false, false, false, false, false, false, false, false, false, false, false, false, false, false, false, false, false] rfl rfl (one_of HT_.out (by kernel_rfl)) (by decide) (fun K hK => ?_)
              refine goes_ Tryd.func21 (by kernel_rfl) rfl #[.int .i8 (-6), .int .i8 5] (by rfl) rfl rfl (by (try simp only [List.map_toArray, List.map_cons, List.map_nil]); first | done | rfl | (simp only [List.length_drop, List.length_take]; rfl)) ?_
              with_reducible refine (netlablaw02_to.calls (-6) 5 t184 t185 _ A9.out).mono ?_
              rintro e w53 ⟨rfl, hb⟩
              refine ⟨_, rfl, ?_⟩
              have n0_ := Aside0.mk (Kd.R_below (by (with_reducible repeat (first | apply Kd.R_alloc | apply Kd.R_drewN | apply Kd.R_drew)); exact HO174.out) hb)
              have n1_ := Aside0.mk (blk_below (g := gb177) (o := .cells #[.int .i8 t175, .int .i8 t176] 26 (0, 0)) (by (with_reducible repeat first | apply bN | apply bD | apply bA); exact BK177.out) hb)
              have n2_ := Aside0.mk (below_step (by repeat (first | (with_reducible first | exact HB.out | apply below_alloc | apply pw_below_drewN | apply below_drew1 | refine below_set ?_ GE177.out) | exact HB.out)) hb)
              clear HO174
              clear BK177
              clear HB
              have HO174 := n0_
              have BK177 := n1_
              have HB := n2_
              clear n0_ n1_ n2_
              (try clear hb)
              (try clear hb2)
              (try clear hk)
              (try clear hi)
              refine hK.out _ _ ⟨(blk_cell BK177.out 0).trans rfl, (blk_cell BK177.out 1).trans rfl⟩ (fun hHeld => ?_)
              clear hK K
              refine norm_ (a' := ?_) ?_ ?_
              rotate_left
              ·show Act.put _ (some 19) _ = _
               simp only [Act.put, List.setIfInBounds_toArray, List.set_cons_zero, List.set_cons_succ, i64_w, i32_w]
               rfl
              refine pure_ (i := 6) (N := some 20) (v := ?_) (a' := ?_) #[true, true, true, true, true, true, true, false, false, false, false, false, false, false, false, false, false, false, false, false, false, false, false, false, false, false, false, false, false, false, false, false, false, false, false, false, false, false, false, false, false, false, false, false, false, false, false, false, false, false, false, false, false, false, false, false, false, false, false, false, false, false, false, false, false, false, false, false, false, false] rfl rfl (any_of HT_.out (by kernel_rfl)) (fun _ _ _ h => h) (Or.inl ⟨by rfl, ?_⟩) ?_ ?_
              rotate_left
              ·intro w'
               go_simp
               with_reducible rfl
              rotate_left
              ·simp only [Act.put, List.setIfInBounds_toArray, List.set_cons_zero, List.set_cons_succ, i64_w, i32_w]
               rfl
              refine pure_ (i := 7) (N := some 21) (v := ?_) (a' := ?_) #[true, true, true, true, true, true, true, true, false, false, false, false, false, false, false, false, false, false, false, false, false, false, false, false, false, false, false, false, false, false, false, false, false, false, false, false, false, false, false, false, false, false, false, false, false, false, false, false, false, false, false, false, false, false, false, false, false, false, false, false, false, false, false, false, false, false, false, false, false, false] rfl rfl (any_of HT_.out (by kernel_rfl)) (fun _ _ _ h => h) (Or.inl ⟨by rfl, ?_⟩) ?_ ?_
              rotate_left
              ·intro w'
               go_simp
               with_reducible rfl
              rotate_left
              ·simp only [Act.put, List.setIfInBounds_toArray, List.set_cons_zero, List.set_cons_succ, i64_w, i32_w]
               rfl
              refine pure_ (i := 8) (N := some 22) (v := ?_) (a' := ?_) #[true, true, true, true, true, true, true, true, true, false, false, false, false, false, false, false, false, false, false, false, false, false, false, false, false, false, false, false, false, false, false, false, false, false, false, false, false, false, false, false, false, false, false, false, false, false, false, false, false, false, false, false, false, false, false, false, false, false, false, false, false, false, false, false, false, false, false, false, false, false] rfl rfl (any_of HT_.out (by kernel_rfl)) (fun _ _ _ h => h) (Or.inl ⟨by rfl, ?_⟩) ?_ ?_
              rotate_left
              ·intro w'
               go_simp
               with_reducible rfl
              rotate_left
              ·simp only [Act.put, List.setIfInBounds_toArray, List.set_cons_zero, List.set_cons_succ, i64_w, i32_w]
               rfl
              refine take_ (i := 9) (N := some 23) (v := ?_) (a' := ?_) #[true, true, true, true, true, true, true, true, true, true, false, false, false, false, false, false, false, false, false, false, false, false, false, false, false, false, false, false, false, false, false, false, false, false, false, false, false, false, false, false, false, false, false, false, false, false, false, false, false, false, false, false, false, false, false, false, false, false, false, false, false, false, false, false, false, false, false, false, false, false] rfl rfl (take_ofW HT_.out HW_.out (by kernel_rfl)) (fun _ _ _ h => h) (Or.inl ⟨by rfl, ?_⟩) hHeld ?_ ?_
              rotate_left
              ·rintro w' ⟨s0, s1⟩
               go_simp
               with_reducible rfl
              rotate_left
              ·simp only [Act.put, List.setIfInBounds_toArray, List.set_cons_zero, List.set_cons_succ, i64_w, i32_w]
               rfl
              refine one_ (i := 10) (N := some 24) #[true, true, true, true, true, true, true, true, true, true, true, false, false, false, false, false, false, false, false, false, false, false, false, false, false, false, false, false, false, false, false, false, false, false, false, false, false, false, false, false, false, false, false, false, false, false, false, false, false, false, false, false, false, false, false, false, false, false, false, false, false, false, false, false, false, false, false, false, false, false] rfl rfl (one_of HT_.out (by kernel_rfl)) (by decide) (fun K hK => ?_)
              refine goes_ Tryd.func21 (by kernel_rfl) rfl #[.int .i8 (-5), .int .i8 5] (by rfl) rfl rfl (by (try simp only [List.map_toArray, List.map_cons, List.map_nil]); first | done | rfl | (simp only [List.length_drop, List.length_take]; rfl)) ?_
              with_reducible refine (netlablaw02_to.calls (-5) 5 t186 t187 _ A11.out).mono ?_
              rintro e w54 ⟨rfl, hb⟩
              refine ⟨_, rfl, ?_⟩
              have n0_ := Aside0.mk (Kd.R_below (by (with_reducible repeat (first | apply Kd.R_alloc | apply Kd.R_drewN | apply Kd.R_drew)); exact HO174.out) hb)
              have n1_ := Aside0.mk (blk_below (g := gb177) (o := .cells #[.int .i8 t175, .int .i8 t176] 26 (0, 0)) (by (with_reducible repeat first | apply bN | apply bD | apply bA); exact BK177.out) hb)
              have n2_ := Aside0.mk (below_step (by repeat (first | (with_reducible first | exact HB.out | apply below_alloc | apply pw_below_drewN | apply below_drew1 | refine below_set ?_ GE177.out) | exact HB.out)) hb)
              clear HO174
              clear BK177
              clear HB
              have HO174 := n0_
              have BK177 := n1_
              have HB := n2_
              clear n0_ n1_ n2_
              (try clear hb)
              (try clear hb2)
              (try clear hk)
              (try clear hi)
              refine hK.out _ _ ⟨(blk_cell BK177.out 0).trans rfl, (blk_cell BK177.out 1).trans rfl⟩ (fun hHeld => ?_)
              clear hK K
              refine norm_ (a' := ?_) ?_ ?_
              rotate_left
              ·show Act.put _ (some 24) _ = _
               simp only [Act.put, List.setIfInBounds_toArray, List.set_cons_zero, List.set_cons_succ, i64_w, i32_w]
               rfl
              refine pure_ (i := 11) (N := some 25) (v := ?_) (a' := ?_) #[true, true, true, true, true, true, true, true, true, true, true, true, false, false, false, false, false, false, false, false, false, false, false, false, false, false, false, false, false, false, false, false, false, false, false, false, false, false, false, false, false, false, false, false, false, false, false, false, false, false, false, false, false, false, false, false, false, false, false, false, false, false, false, false, false, false, false, false, false, false] rfl rfl (any_of HT_.out (by kernel_rfl)) (fun _ _ _ h => h) (Or.inl ⟨by rfl, ?_⟩) ?_ ?_
              rotate_left
              ·intro w'
               go_simp
               with_reducible rfl
              rotate_left
              ·simp only [Act.put, List.setIfInBounds_toArray, List.set_cons_zero, List.set_cons_succ, i64_w, i32_w]
               rfl
              refine pure_ (i := 12) (N := some 26) (v := ?_) (a' := ?_) #[true, true, true, true, true, true, true, true, true, true, true, true, true, false, false, false, false, false, false, false, false, false, false, false, false, false, false, false, false, false, false, false, false, false, false, false, false, false, false, false, false, false, false, false, false, false, false, false, false, false, false, false, false, false, false, false, false, false, false, false, false, false, false, false, false, false, false, false, false, false] rfl rfl (any_of HT_.out (by kernel_rfl)) (fun _ _ _ h => h) (Or.inl ⟨by rfl, ?_⟩) ?_ ?_
              rotate_left
              ·intro w'
               go_simp
               with_reducible rfl
              rotate_left
              ·simp only [Act.put, List.setIfInBounds_toArray, List.set_cons_zero, List.set_cons_succ, i64_w, i32_w]
               rfl
              refine pure_ (i := 13) (N := some 27) (v := ?_) (a' := ?_) #[true, true, true, true, true, true, true, true, true, true, true, true, true, true, false, false, false, false, false, false, false, false, false, false, false, false, false, false, false, false, false, false, false, false, false, false, false, false, false, false, false, false, false, false, false, false, false, false, false, false, false, false, false, false, false, false, false, false, false, false, false, false, false, false, false, false, false, false, false, false] rfl rfl (any_of HT_.out (by kernel_rfl)) (fun _ _ _ h => h) (Or.inl ⟨by rfl, ?_⟩) ?_ ?_
              rotate_left
              ·intro w'
               go_simp
               with_reducible rfl
              rotate_left
              ·simp only [Act.put, List.setIfInBounds_toArray, List.set_cons_zero, List.set_cons_succ, i64_w, i32_w]
               rfl
              refine take_ (i := 14) (N := some 28) (v := ?_) (a' := ?_) #[true, true, true, true, true, true, true, true, true, true, true, true, true, true, true, false, false, false, false, false, false, false, false, false, false, false, false, false, false, false, false, false, false, false, false, false, false, false, false, false, false, false, false, false, false, false, false, false, false, false, false, false, false, false, false, false, false, false, false, false, false, false, false, false, false, false, false, false, false, false] rfl rfl (take_ofW HT_.out HW_.out (by kernel_rfl)) (fun _ _ _ h => h) (Or.inl ⟨by rfl, ?_⟩) hHeld ?_ ?_
              rotate_left
              ·rintro w' ⟨s0, s1⟩
               go_simp
               with_reducible rfl
              rotate_left
              ·simp only [Act.put, List.setIfInBounds_toArray, List.set_cons_zero, List.set_cons_succ, i64_w, i32_w]
               rfl
              refine one_ (i := 15) (N := some 29) #[true, true, true, true, true, true, true, true, true, true, true, true, true, true, true, true, false, false, false, false, false, false, false, false, false, false, false, false, false, false, false, false, false, false, false, false, false, false, false, false, false, false, false, false, false, false, false, false, false, false, false, false, false, false, false, false, false, false, false, false, false, false, false, false, false, false, false, false, false, false] rfl rfl (one_of HT_.out (by kernel_rfl)) (by decide) (fun K hK => ?_)
              refine goes_ Tryd.func28 (by kernel_rfl) rfl #[.agg #[.int .i8 t175, .int .i8 t176]] (by rfl) rfl rfl (by (try simp only [List.map_toArray, List.map_cons, List.map_nil]); first | done | rfl | (simp only [List.length_drop, List.length_take]; rfl)) ?_
              with_reducible refine (strength_Read.calls t175 t176 t188 _ A13.out).mono ?_
              rintro e w55 ⟨rfl, hb⟩
              refine ⟨_, rfl, ?_⟩
              have n0_ := Aside0.mk (Kd.R_below (by (with_reducible repeat (first | apply Kd.R_alloc | apply Kd.R_drewN | apply Kd.R_drew)); exact HO174.out) hb)
              have n1_ := Aside0.mk (blk_below (g := gb177) (o := .cells #[.int .i8 t175, .int .i8 t176] 26 (0, 0)) (by (with_reducible repeat first | apply bN | apply bD | apply bA); exact BK177.out) hb)
              have n2_ := Aside0.mk (below_step (by repeat (first | (with_reducible first | exact HB.out | apply below_alloc | apply pw_below_drewN | apply below_drew1 | refine below_set ?_ GE177.out) | exact HB.out)) hb)
              clear HO174
              clear BK177
              clear HB
              have HO174 := n0_
              have BK177 := n1_
              have HB := n2_
              clear n0_ n1_ n2_
              (try clear hb)
              (try clear hb2)
              (try clear hk)
              (try clear hi)
              refine hK.out _ _ ⟨(blk_cell BK177.out 0).trans rfl, (blk_cell BK177.out 1).trans rfl⟩ (fun hHeld => ?_)
              clear hK K
              refine norm_ (a' := ?_) ?_ ?_
              rotate_left
              ·show Act.put _ (some 29) _ = _
               simp only [Act.put, List.setIfInBounds_toArray, List.set_cons_zero, List.set_cons_succ, i64_w, i32_w]
               rfl
              refine pure_ (i := 16) (N := some 30) (v := ?_) (a' := ?_) #[true, true, true, true, true, true, true, true, true, true, true, true, true, true, true, true, true, false, false, false, false, false, false, false, false, false, false, false, false, false, false, false, false, false, false, false, false, false, false, false, false, false, false, false, false, false, false, false, false, false, false, false, false, false, false, false, false, false, false, false, false, false, false, false, false, false, false, false, false, false] rfl rfl (any_of HT_.out (by kernel_rfl)) (fun _ _ _ h => h) (Or.inl ⟨by rfl, ?_⟩) ?_ ?_
              rotate_left
              ·intro w'
               go_simp
               with_reducible rfl
              rotate_left
              ·simp only [Act.put, List.setIfInBounds_toArray, List.set_cons_zero, List.set_cons_succ, i64_w, i32_w]
               rfl
              refine pure_ (i := 17) (N := some 31) (v := ?_) (a' := ?_) #[true, true, true, true, true, true, true, true, true, true, true, true, true, true, true, true, true, true, false, false, false, false, false, false, false, false, false, false, false, false, false, false, false, false, false, false, false, false, false, false, false, false, false, false, false, false, false, false, false, false, false, false, false, false, false, false, false, false, false, false, false, false, false, false, false, false, false, false, false, false] rfl rfl (any_of HT_.out (by kernel_rfl)) (fun _ _ _ h => h) (Or.inl ⟨by rfl, ?_⟩) ?_ ?_
              rotate_left
              ·intro w'
               go_simp
               with_reducible rfl
              rotate_left
              ·simp only [Act.put, List.setIfInBounds_toArray, List.set_cons_zero, List.set_cons_succ, i64_w, i32_w]
               rfl
              refine pure_ (i := 18) (N := some 32) (v := ?_) (a' := ?_) #[true, true, true, true, true, true, true, true, true, true, true, true, true, true, true, true, true, true, true, false, false, false, false, false, false, false, false, false, false, false, false, false, false, false, false, false, false, false, false, false, false, false, false, false, false, false, false, false, false, false, false, false, false, false, false, false, false, false, false, false, false, false, false, false, false, false, false, false, false, false] rfl rfl (any_of HT_.out (by kernel_rfl)) (fun _ _ _ h => h) (Or.inl ⟨by rfl, ?_⟩) ?_ ?_
              rotate_left
              ·intro w'
               go_simp
               with_reducible rfl
              rotate_left
              ·simp only [Act.put, List.setIfInBounds_toArray, List.set_cons_zero, List.set_cons_succ, i64_w, i32_w]
               rfl
              refine take_ (i := 19) (N := some 33) (v := ?_) (a' := ?_) #[true, true, true, true, true, true, true, true, true, true, true, true, true, true, true, true, true, true, true, true, false, false, false, false, false, false, false, false, false, false, false, false, false, false, false, false, false, false, false, false, false, false, false, false, false, false, false, false, false, false, false, false, false, false, false, false, false, false, false, false, false, false, false, false, false, false, false, false, false, false] rfl rfl (take_ofW HT_.out HW_.out (by kernel_rfl)) (fun _ _ _ h => h) (Or.inl ⟨by rfl, ?_⟩) hHeld ?_ ?_
              rotate_left
              ·rintro w' ⟨s0, s1⟩
               go_simp
               with_reducible rfl
              rotate_left
              ·simp only [Act.put, List.setIfInBounds_toArray, List.set_cons_zero, List.set_cons_succ, i64_w, i32_w]
               rfl
              refine one_ (i := 20) (N := some 34) #[true, true, true, true, true, true, true, true, true, true, true, true, true, true, true, true, true, true, true, true, true, false, false, false, false, false, false, false, false, false, false, false, false, false, false, false, false, false, false, false, false, false, false, false, false, false, false, false, false, false, false, false, false, false, false, false, false, false, false, false, false, false, false, false, false, false, false, false, false, false] rfl rfl (one_of HT_.out (by kernel_rfl)) (by decide) (fun K hK => ?_)
              refine goes_ Tryd.func21 (by kernel_rfl) rfl #[.int .i8 6, .int .i8 6] (by rfl) rfl rfl (by (try simp only [List.map_toArray, List.map_cons, List.map_nil]); first | done | rfl | (simp only [List.length_drop, List.length_take]; rfl)) ?_
              with_reducible refine (netlablaw02_to.calls 6 6 t189 t190 _ A15.out).mono ?_
              rintro e w56 ⟨rfl, hb⟩
              refine ⟨_, rfl, ?_⟩
              have n0_ := Aside0.mk (Kd.R_below (by (with_reducible repeat (first | apply Kd.R_alloc | apply Kd.R_drewN | apply Kd.R_drew)); exact HO174.out) hb)
              have n1_ := Aside0.mk (blk_below (g := gb177) (o := .cells #[.int .i8 t175, .int .i8 t176] 26 (0, 0)) (by (with_reducible repeat first | apply bN | apply bD | apply bA); exact BK177.out) hb)
              have n2_ := Aside0.mk (below_step (by repeat (first | (with_reducible first | exact HB.out | apply below_alloc | apply pw_below_drewN | apply below_drew1 | refine below_set ?_ GE177.out) | exact HB.out)) hb)
              clear HO174
              clear BK177
              clear HB
              have HO174 := n0_
              have BK177 := n1_
              have HB := n2_
              clear n0_ n1_ n2_
              (try clear hb)
              (try clear hb2)
              (try clear hk)
              (try clear hi)
              refine hK.out _ _ ⟨(blk_cell BK177.out 0).trans rfl, (blk_cell BK177.out 1).trans rfl⟩ (fun hHeld => ?_)
              clear hK K
              refine norm_ (a' := ?_) ?_ ?_
              rotate_left
              ·show Act.put _ (some 34) _ = _
               simp only [Act.put, List.setIfInBounds_toArray, List.set_cons_zero, List.set_cons_succ, i64_w, i32_w]
               rfl
              refine one_ (i := 21) (N := some 35) #[true, true, true, true, true, true, true, true, true, true, true, true, true, true, true, true, true, true, true, true, true, true, false, false, false, false, false, false, false, false, false, false, false, false, false, false, false, false, false, false, false, false, false, false, false, false, false, false, false, false, false, false, false, false, false, false, false, false, false, false, false, false, false, false, false, false, false, false, false, false] rfl rfl (one_of HT_.out (by kernel_rfl)) (by decide) (fun K hK => ?_)
              refine Kd.R_lit_step k26 _ 26 ?hg (N := 35) ?hd (xs := ([(⟨t175, t176⟩ : S26), (⟨t189, t190⟩ : S26)] : List (S26))) (inner := [.int .i8 t175, .int .i8 t176, .int .i8 t189, .int .i8 t190]) (ok := fun _ => True) (okp := fun _ => True) ?hr ?hp (fun _ hk => hk) trivial (Below.refl _ _) (Nat.le_refl _) (by simp) ?_; (case hd => rfl); (case hg => rfl); (case hr => first | (go_simp; done) | (go_simp; rfl)); (case hp => exact (Reps.c2 (show Kd.M k26 _ _ _ (⟨t175, t176⟩ : S26) [.int .i8 t175, .int .i8 t176] from (k26_mkM _ _ _ (⟨t175, t176⟩ : S26) )) (Reps.c2 (show Kd.M k26 _ _ _ (⟨t189, t190⟩ : S26) [.int .i8 t189, .int .i8 t190] from (k26_mkM _ _ _ (⟨t189, t190⟩ : S26) )) (Reps.none _ _))))
              intro v192 w57 ho58 hb hg_ hnew_
              clear hg_ hnew_
              (first | rw [← Ny191.out] at ho58 | (simp only [Int.reduceToNat] at ho58; rw [← Ny191.out] at ho58))
              have n0_ := Aside0.mk (Kd.R_elder' (by (with_reducible repeat (first | apply Kd.R_alloc | apply Kd.R_drewN | apply Kd.R_drew)); exact HO174.out) (Kd.R_base ho58) hb)
              have n1_ := Aside0.mk (Kd.R_lower (Kd.R_newB (Kd.R_new' ho58 (Kd.R_lt (by (with_reducible repeat (first | apply Kd.R_alloc | apply Kd.R_drewN | apply Kd.R_drew)); exact HO174.out))) (g := gb177) (o := .cells #[.int .i8 t175, .int .i8 t176] 26 (0, 0)) (by (with_reducible repeat first | apply bN | apply bD | apply bA); exact BK177.out)) (below_size (by repeat (first | (with_reducible first | exact HB.out | apply below_alloc | apply pw_below_drewN | apply below_drew1 | refine below_set ?_ GE177.out) | exact HB.out))))
              have n2_ := Aside0.mk (blk_below (g := gb177) (o := .cells #[.int .i8 t175, .int .i8 t176] 26 (0, 0)) (by (with_reducible repeat first | apply bN | apply bD | apply bA); exact BK177.out) hb)
              have n3_ := Aside0.mk (below_step (by repeat (first | (with_reducible first | exact HB.out | apply below_alloc | apply pw_below_drewN | apply below_drew1 | refine below_set ?_ GE177.out) | exact HB.out)) hb)
              clear HO174
              clear BK177
              clear HB
              have HO174 := n0_
              have HO193 := n1_
              have BK177 := n2_
              have HB := n3_
              clear n0_ n1_ n2_ n3_
              clear hb ho58
              obtain ⟨Ao59, co59, eo59⟩ := Kd.R_slice HO193.out
              (first | subst eo59 | (injection eo59 with f1_ f2_ f3_; have f4_ := f1_.symm; have f5_ := f3_.symm; clear f1_ f2_ f3_; subst f4_; subst f5_))
              refine hK.out _ _ ⟨(blk_cell BK177.out 0).trans rfl, (blk_cell BK177.out 1).trans rfl⟩ (fun hHeld => ?_)
              clear hK K
              refine norm_ (a' := ?_) ?_ ?_
              rotate_left
              ·show Act.put _ (some 35) _ = _
               simp only [Act.put, List.setIfInBounds_toArray, List.set_cons_zero, List.set_cons_succ, i64_w, i32_w]
               rfl
              refine one_ (i := 22) (N := some 36) #[true, true, true, true, true, true, true, true, true, true, true, true, true, true, true, true, true, true, true, true, true, true, true, false, false, false, false, false, false, false, false, false, false, false, false, false, false, false, false, false, false, false, false, false, false, false, false, false, false, false, false, false, false, false, false, false, false, false, false, false, false, false, false, false, false, false, false, false, false, false] rfl rfl (one_of HT_.out (by kernel_rfl)) (by decide) (fun K hK => ?_)
              refine goes_ Tryd.func20 (by kernel_rfl) rfl #[.slice Ao59 y191.length co59] (by rfl) rfl rfl (by (try simp only [List.map_toArray, List.map_cons, List.map_nil]); first | done | rfl | (simp only [List.length_drop, List.length_take]; rfl)) ?_
              with_reducible refine (strength_Combine.calls k _ _ y191 t194 t195 _ ?side1 ?side2 A16.out).mono ?_
              (case side1 => repeat (first | exact (Kd.R_reads' HO193.out).2.2 | (with_reducible refine Kd.C_alloc ?_ _) | (with_reducible refine Kd.C_drewN ?_ _) | (with_reducible refine Kd.C_drew ?_)))
              (case side2 => exact (Kd.R_reads' HO193.out).2.1)
              rintro e w60 ⟨rfl, hb⟩
              refine ⟨_, rfl, ?_⟩
              have n0_ := Aside0.mk (Kd.R_below (by (with_reducible repeat (first | apply Kd.R_alloc | apply Kd.R_drewN | apply Kd.R_drew)); exact HO174.out) hb)
              have n1_ := Aside0.mk (Kd.R_below (by (with_reducible repeat (first | apply Kd.R_alloc | apply Kd.R_drewN | apply Kd.R_drew)); exact HO193.out) hb)
              have n2_ := Aside0.mk (blk_below (g := gb177) (o := .cells #[.int .i8 t175, .int .i8 t176] 26 (0, 0)) (by (with_reducible repeat first | apply bN | apply bD | apply bA); exact BK177.out) hb)
              have n3_ := Aside0.mk (below_step (by repeat (first | (with_reducible first | exact HB.out | apply below_alloc | apply pw_below_drewN | apply below_drew1 | refine below_set ?_ GE177.out) | exact HB.out)) hb)
              clear HO174
              clear HO193
              clear BK177
              clear HB
              have HO174 := n0_
              have HO193 := n1_
              have BK177 := n2_
              have HB := n3_
              clear n0_ n1_ n2_ n3_
              (try clear hb)
              (try clear hb2)
              (try clear hk)
              (try clear hi)
              refine hK.out _ _ ⟨(blk_cell BK177.out 0).trans rfl, (blk_cell BK177.out 1).trans rfl⟩ (fun hHeld => ?_)
              clear hK K
              refine norm_ (a' := ?_) ?_ ?_
              rotate_left
              ·show Act.put _ (some 36) _ = _
               simp only [Act.put, List.setIfInBounds_toArray, List.set_cons_zero, List.set_cons_succ, i64_w, i32_w]
               rfl
              refine one_ (i := 23) (N := some 37) #[true, true, true, true, true, true, true, true, true, true, true, true, true, true, true, true, true, true, true, true, true, true, true, true, false, false, false, false, false, false, false, false, false, false, false, false, false, false, false, false, false, false, false, false, false, false, false, false, false, false, false, false, false, false, false, false, false, false, false, false, false, false, false, false, false, false, false, false, false, false] rfl rfl (one_of HT_.out (by kernel_rfl)) (by decide) (fun K hK => ?_)
              refine goes_ Tryd.func21 (by kernel_rfl) rfl #[.int .i8 6, .int .i8 6] (by rfl) rfl rfl (by (try simp only [List.map_toArray, List.map_cons, List.map_nil]); first | done | rfl | (simp only [List.length_drop, List.length_take]; rfl)) ?_
              with_reducible refine (netlablaw02_to.calls 6 6 t196 t197 _ A17.out).mono ?_
              rintro e w61 ⟨rfl, hb⟩
              refine ⟨_, rfl, ?_⟩
              have n0_ := Aside0.mk (Kd.R_below (by (with_reducible repeat (first | apply Kd.R_alloc | apply Kd.R_drewN | apply Kd.R_drew)); exact HO174.out) hb)
              have n1_ := Aside0.mk (Kd.R_below (by (with_reducible repeat (first | apply Kd.R_alloc | apply Kd.R_drewN | apply Kd.R_drew)); exact HO193.out) hb)
              have n2_ := Aside0.mk (blk_below (g := gb177) (o := .cells #[.int .i8 t175, .int .i8 t176] 26 (0, 0)) (by (with_reducible repeat first | apply bN | apply bD | apply bA); exact BK177.out) hb)
              have n3_ := Aside0.mk (below_step (by repeat (first | (with_reducible first | exact HB.out | apply below_alloc | apply pw_below_drewN | apply below_drew1 | refine below_set ?_ GE177.out) | exact HB.out)) hb)
              clear HO174
              clear HO193
              clear BK177
              clear HB
              have HO174 := n0_
              have HO193 := n1_
              have BK177 := n2_
              have HB := n3_
              clear n0_ n1_ n2_ n3_
              (try clear hb)
              (try clear hb2)
              (try clear hk)
              (try clear hi)
              refine hK.out _ _ ⟨(blk_cell BK177.out 0).trans rfl, (blk_cell BK177.out 1).trans rfl⟩ (fun hHeld => ?_)
              clear hK K
              refine norm_ (a' := ?_) ?_ ?_
              rotate_left
              ·show Act.put _ (some 37) _ = _
               simp only [Act.put, List.setIfInBounds_toArray, List.set_cons_zero, List.set_cons_succ, i64_w, i32_w]
               rfl
              refine pure_ (i := 24) (N := some 38) (v := ?_) (a' := ?_) #[true, true, true, true, true, true, true, true, true, true, true, true, true, true, true, true, true, true, true, true, true, true, true, true, true, false, false, false, false, false, false, false, false, false, false, false, false, false, false, false, false, false, false, false, false, false, false, false, false, false, false, false, false, false, false, false, false, false, false, false, false, false, false, false, false, false, false, false, false, false] rfl rfl (any_of HT_.out (by kernel_rfl)) (fun _ _ _ h => h) (Or.inl ⟨by rfl, ?_⟩) ?_ ?_
              rotate_left
              ·intro w'
               go_simp
               with_reducible rfl
              rotate_left
              ·simp only [Act.put, List.setIfInBounds_toArray, List.set_cons_zero, List.set_cons_succ, i64_w, i32_w]
               rfl
              refine pure_ (i := 25) (N := some 39) (v := ?_) (a' := ?_) #[true, true, true, true, true, true, true, true, true, true, true, true, true, true, true, true, true, true, true, true, true, true, true, true, true, true, false, false, false, false, false, false, false, false, false, false, false, false, false, false, false, false, false, false, false, false, false, false, false, false, false, false, false, false, false, false, false, false, false, false, false, false, false, false, false, false, false, false, false, false] rfl rfl (any_of HT_.out (by kernel_rfl)) (fun _ _ _ h => h) (Or.inl ⟨by rfl, ?_⟩) ?_ ?_
              rotate_left
              ·intro w'
               go_simp
               with_reducible rfl
              rotate_left
              ·simp only [Act.put, List.setIfInBounds_toArray, List.set_cons_zero, List.set_cons_succ, i64_w, i32_w]
               rfl
              refine pure_ (i := 26) (N := some 40) (v := ?_) (a' := ?_) #[true, true, true, true, true, true, true, true, true, true, true, true, true, true, true, true, true, true, true, true, true, true, true, true, true, true, true, false, false, false, false, false, false, false, false, false, false, false, false, false, false, false, false, false, false, false, false, false, false, false, false, false, false, false, false, false, false, false, false, false, false, false, false, false, false, false, false, false, false, false] rfl rfl (any_of HT_.out (by kernel_rfl)) (fun _ _ _ h => h) (Or.inl ⟨by rfl, ?_⟩) ?_ ?_
              rotate_left
              ·intro w'
               go_simp
               with_reducible rfl
              rotate_left
              ·simp only [Act.put, List.setIfInBounds_toArray, List.set_cons_zero, List.set_cons_succ, i64_w, i32_w]
               rfl
              refine one_ (i := 27) (N := some 41) #[true, true, true, true, true, true, true, true, true, true, true, true, true, true, true, true, true, true, true, true, true, true, true, true, true, true, true, true, false, false, false, false, false, false, false, false, false, false, false, false, false, false, false, false, false, false, false, false, false, false, false, false, false, false, false, false, false, false, false, false, false, false, false, false, false, false, false, false, false, false] rfl rfl (one_of HT_.out (by kernel_rfl)) (by decide) (fun K hK => ?_)
              refine goes_ Tryd.func21 (by kernel_rfl) rfl #[.int .i8 6, .int .i8 6] (by rfl) rfl rfl (by (try simp only [List.map_toArray, List.map_cons, List.map_nil]); first | done | rfl | (simp only [List.length_drop, List.length_take]; rfl)) ?_
              with_reducible refine (netlablaw02_to.calls 6 6 t198 t199 _ A19.out).mono ?_
              rintro e w62 ⟨rfl, hb⟩
              refine ⟨_, rfl, ?_⟩
              have n0_ := Aside0.mk (Kd.R_below (by (with_reducible repeat (first | apply Kd.R_alloc | apply Kd.R_drewN | apply Kd.R_drew)); exact HO174.out) hb)
              have n1_ := Aside0.mk (Kd.R_below (by (with_reducible repeat (first | apply Kd.R_alloc | apply Kd.R_drewN | apply Kd.R_drew)); exact HO193.out) hb)
              have n2_ := Aside0.mk (blk_below (g := gb177) (o := .cells #[.int .i8 t175, .int .i8 t176] 26 (0, 0)) (by (with_reducible repeat first | apply bN | apply bD | apply bA); exact BK177.out) hb)
              have n3_ := Aside0.mk (below_step (by repeat (first | (with_reducible first | exact HB.out | apply below_alloc | apply pw_below_drewN | apply below_drew1 | refine below_set ?_ GE177.out) | exact HB.out)) hb)
              clear HO174
              clear HO193
              clear BK177
              clear HB
              have HO174 := n0_
              have HO193 := n1_
              have BK177 := n2_
              have HB := n3_
              clear n0_ n1_ n2_ n3_
              (try clear hb)
              (try clear hb2)
              (try clear hk)
              (try clear hi)
              refine hK.out _ _ ⟨(blk_cell BK177.out 0).trans rfl, (blk_cell BK177.out 1).trans rfl⟩ (fun hHeld => ?_)
              clear hK K
              refine norm_ (a' := ?_) ?_ ?_
              rotate_left
              ·show Act.put _ (some 41) _ = _
               simp only [Act.put, List.setIfInBounds_toArray, List.set_cons_zero, List.set_cons_succ, i64_w, i32_w]
               rfl
              refine one_ (i := 28) (N := some 42) #[true, true, true, true, true, true, true, true, true, true, true, true, true, true, true, true, true, true, true, true, true, true, true, true, true, true, true, true, true, false, false, false, false, false, false, false, false, false, false, false, false, false, false, false, false, false, false, false, false, false, false, false, false, false, false, false, false, false, false, false, false, false, false, false, false, false, false, false, false, false] rfl rfl (one_of HT_.out (by kernel_rfl)) (by decide) (fun K hK => ?_)
              refine goes_ Tryd.func28 (by kernel_rfl) rfl #[.agg #[.int .i8 t198, .int .i8 t199]] (by rfl) rfl rfl (by (try simp only [List.map_toArray, List.map_cons, List.map_nil]); first | done | rfl | (simp only [List.length_drop, List.length_take]; rfl)) ?_
              with_reducible refine (strength_Read.calls t198 t199 t200 _ A20.out).mono ?_
              rintro e w63 ⟨rfl, hb⟩
              refine ⟨_, rfl, ?_⟩
              have n0_ := Aside0.mk (Kd.R_below (by (with_reducible repeat (first | apply Kd.R_alloc | apply Kd.R_drewN | apply Kd.R_drew)); exact HO174.out) hb)
              have n1_ := Aside0.mk (Kd.R_below (by (with_reducible repeat (first | apply Kd.R_alloc | apply Kd.R_drewN | apply Kd.R_drew)); exact HO193.out) hb)
              have n2_ := Aside0.mk (blk_below (g := gb177) (o := .cells #[.int .i8 t175, .int .i8 t176] 26 (0, 0)) (by (with_reducible repeat first | apply bN | apply bD | apply bA); exact BK177.out) hb)
              have n3_ := Aside0.mk (below_step (by repeat (first | (with_reducible first | exact HB.out | apply below_alloc | apply pw_below_drewN | apply below_drew1 | refine below_set ?_ GE177.out) | exact HB.out)) hb)
              clear HO174
              clear HO193
              clear BK177
              clear HB
              have HO174 := n0_
              have HO193 := n1_
              have BK177 := n2_
              have HB := n3_
              clear n0_ n1_ n2_ n3_
              (try clear hb)
              (try clear hb2)
              (try clear hk)
              (try clear hi)
              refine hK.out _ _ ⟨(blk_cell BK177.out 0).trans rfl, (blk_cell BK177.out 1).trans rfl⟩ (fun hHeld => ?_)
              clear hK K
              refine norm_ (a' := ?_) ?_ ?_
              rotate_left
              ·show Act.put _ (some 42) _ = _
               simp only [Act.put, List.setIfInBounds_toArray, List.set_cons_zero, List.set_cons_succ, i64_w, i32_w]
               rfl
              refine pure_ (i := 29) (N := some 43) (v := ?_) (a' := ?_) #[true, true, true, true, true, true, true, true, true, true, true, true, true, true, true, true, true, true, true, true, true, true, true, true, true, true, true, true, true, true, false, false, false, false, false, false, false, false, false, false, false, false, false, false, false, false, false, false, false, false, false, false, false, false, false, false, false, false, false, false, false, false, false, false, false, false, false, false, false, false] rfl rfl (any_of HT_.out (by kernel_rfl)) (fun _ _ _ h => h) (Or.inl ⟨by rfl, ?_⟩) ?_ ?_
              rotate_left
              ·intro w'
               go_simp
               with_reducible rfl
              rotate_left
              ·simp only [Act.put, List.setIfInBounds_toArray, List.set_cons_zero, List.set_cons_succ, i64_w, i32_w]
               rfl
              refine pure_ (i := 30) (N := some 44) (v := ?_) (a' := ?_) #[true, true, true, true, true, true, true, true, true, true, true, true, true, true, true, true, true, true, true, true, true, true, true, true, true, true, true, true, true, true, true, false, false, false, false, false, false, false, false, false, false, false, false, false, false, false, false, false, false, false, false, false, false, false, false, false, false, false, false, false, false, false, false, false, false, false, false, false, false, false] rfl rfl (any_of HT_.out (by kernel_rfl)) (fun _ _ _ h => h) (Or.inl ⟨by rfl, ?_⟩) ?_ ?_
              rotate_left
              ·intro w'
               go_simp
               with_reducible rfl
              rotate_left
              ·simp only [Act.put, List.setIfInBounds_toArray, List.set_cons_zero, List.set_cons_succ, i64_w, i32_w]
               rfl
              refine pure_ (i := 31) (N := some 45) (v := ?_) (a' := ?_) #[true, true, true, true, true, true, true, true, true, true, true, true, true, true, true, true, true, true, true, true, true, true, true, true, true, true, true, true, true, true, true, true, false, false, false, false, false, false, false, false, false, false, false, false, false, false, false, false, false, false, false, false, false, false, false, false, false, false, false, false, false, false, false, false, false, false, false, false, false, false] rfl rfl (any_of HT_.out (by kernel_rfl)) (fun _ _ _ h => h) (Or.inl ⟨by rfl, ?_⟩) ?_ ?_
              rotate_left
              ·intro w'
               go_simp
               with_reducible rfl
              rotate_left
              ·simp only [Act.put, List.setIfInBounds_toArray, List.set_cons_zero, List.set_cons_succ, i64_w, i32_w]
               rfl
              refine one_ (i := 32) (N := some 46) #[true, true, true, true, true, true, true, true, true, true, true, true, true, true, true, true, true, true, true, true, true, true, true, true, true, true, true, true, true, true, true, true, true, false, false, false, false, false, false, false, false, false, false, false, false, false, false, false, false, false, false, false, false, false, false, false, false, false, false, false, false, false, false, false, false, false, false, false, false, false] rfl rfl (one_of HT_.out (by kernel_rfl)) (by decide) (fun K hK => ?_)
              refine goes_ Tryd.func21 (by kernel_rfl) rfl #[.int .i8 3, .int .i8 5] (by rfl) rfl rfl (by (try simp only [List.map_toArray, List.map_cons, List.map_nil]); first | done | rfl | (simp only [List.length_drop, List.length_take]; rfl)) ?_
              with_reducible refine (netlablaw02_to.calls 3 5 t201 t202 _ A22.out).mono ?_
              rintro e w64 ⟨rfl, hb⟩
              refine ⟨_, rfl, ?_⟩
              have n0_ := Aside0.mk (Kd.R_below (by (with_reducible repeat (first | apply Kd.R_alloc | apply Kd.R_drewN | apply Kd.R_drew)); exact HO174.out) hb)
              have n1_ := Aside0.mk (Kd.R_below (by (with_reducible repeat (first | apply Kd.R_alloc | apply Kd.R_drewN | apply Kd.R_drew)); exact HO193.out) hb)
              have n2_ := Aside0.mk (blk_below (g := gb177) (o := .cells #[.int .i8 t175, .int .i8 t176] 26 (0, 0)) (by (with_reducible repeat first | apply bN | apply bD | apply bA); exact BK177.out) hb)
              have n3_ := Aside0.mk (below_step (by repeat (first | (with_reducible first | exact HB.out | apply below_alloc | apply pw_below_drewN | apply below_drew1 | refine below_set ?_ GE177.out) | exact HB.out)) hb)
              clear HO174
              clear HO193
              clear BK177
              clear HB
              have HO174 := n0_
              have HO193 := n1_
              have BK177 := n2_
              have HB := n3_
              clear n0_ n1_ n2_ n3_
              (try clear hb)
              (try clear hb2)
              (try clear hk)
              (try clear hi)
              refine hK.out _ _ ⟨(blk_cell BK177.out 0).trans rfl, (blk_cell BK177.out 1).trans rfl⟩ (fun hHeld => ?_)
              clear hK K
              refine norm_ (a' := ?_) ?_ ?_
              rotate_left
              ·show Act.put _ (some 46) _ = _
               simp only [Act.put, List.setIfInBounds_toArray, List.set_cons_zero, List.set_cons_succ, i64_w, i32_w]
               rfl
              refine one_ (i := 33) (N := some 47) #[true, true, true, true, true, true, true, true, true, true, true, true, true, true, true, true, true, true, true, true, true, true, true, true, true, true, true, true, true, true, true, true, true, true, false, false, false, false, false, false, false, false, false, false, false, false, false, false, false, false, false, false, false, false, false, false, false, false, false, false, false, false, false, false, false, false, false, false, false, false] rfl rfl (one_of HT_.out (by kernel_rfl)) (by decide) (fun K hK => ?_)
              refine goes_ Tryd.func21 (by kernel_rfl) rfl #[.int .i8 (-4), .int .i8 (-4)] (by rfl) rfl rfl (by (try simp only [List.map_toArray, List.map_cons, List.map_nil]); first | done | rfl | (simp only [List.length_drop, List.length_take]; rfl)) ?_
              with_reducible refine (netlablaw02_to.calls (-4) (-4) t203 t204 _ A23.out).mono ?_
              rintro e w65 ⟨rfl, hb⟩
              refine ⟨_, rfl, ?_⟩
              have n0_ := Aside0.mk (Kd.R_below (by (with_reducible repeat (first | apply Kd.R_alloc | apply Kd.R_drewN | apply Kd.R_drew)); exact HO174.out) hb)
              have n1_ := Aside0.mk (Kd.R_below (by (with_reducible repeat (first | apply Kd.R_alloc | apply Kd.R_drewN | apply Kd.R_drew)); exact HO193.out) hb)
              have n2_ := Aside0.mk (blk_below (g := gb177) (o := .cells #[.int .i8 t175, .int .i8 t176] 26 (0, 0)) (by (with_reducible repeat first | apply bN | apply bD | apply bA); exact BK177.out) hb)
              have n3_ := Aside0.mk (below_step (by repeat (first | (with_reducible first | exact HB.out | apply below_alloc | apply pw_below_drewN | apply below_drew1 | refine below_set ?_ GE177.out) | exact HB.out)) hb)
              clear HO174
              clear HO193
              clear BK177
              clear HB
              have HO174 := n0_
              have HO193 := n1_
              have BK177 := n2_
              have HB := n3_
              clear n0_ n1_ n2_ n3_
              (try clear hb)
              (try clear hb2)
              (try clear hk)
              (try clear hi)
              refine hK.out _ _ ⟨(blk_cell BK177.out 0).trans rfl, (blk_cell BK177.out 1).trans rfl⟩ (fun hHeld => ?_)
              clear hK K
              refine norm_ (a' := ?_) ?_ ?_
              rotate_left
              ·show Act.put _ (some 47) _ = _
               simp only [Act.put, List.setIfInBounds_toArray, List.set_cons_zero, List.set_cons_succ, i64_w, i32_w]
               rfl
              refine one_ (i := 34) (N := some 48) #[true, true, true, true, true, true, true, true, true, true, true, true, true, true, true, true, true, true, true, true, true, true, true, true, true, true, true, true, true, true, true, true, true, true, true, false, false, false, false, false, false, false, false, false, false, false, false, false, false, false, false, false, false, false, false, false, false, false, false, false, false, false, false, false, false, false, false, false, false, false] rfl rfl (one_of HT_.out (by kernel_rfl)) (by decide) (fun K hK => ?_)
              refine Kd.R_lit_step k26 _ 26 ?hg (N := 48) ?hd (xs := ([(⟨t201, t202⟩ : S26), (⟨t203, t204⟩ : S26)] : List (S26))) (inner := [.int .i8 t201, .int .i8 t202, .int .i8 t203, .int .i8 t204]) (ok := fun _ => True) (okp := fun _ => True) ?hr ?hp (fun _ hk => hk) trivial (Below.refl _ _) (Nat.le_refl _) (by simp) ?_; (case hd => rfl); (case hg => rfl); (case hr => first | (go_simp; done) | (go_simp; rfl)); (case hp => exact (Reps.c2 (show Kd.M k26 _ _ _ (⟨t201, t202⟩ : S26) [.int .i8 t201, .int .i8 t202] from (k26_mkM _ _ _ (⟨t201, t202⟩ : S26) )) (Reps.c2 (show Kd.M k26 _ _ _ (⟨t203, t204⟩ : S26) [.int .i8 t203, .int .i8 t204] from (k26_mkM _ _ _ (⟨t203, t204⟩ : S26) )) (Reps.none _ _))))
              intro v206 w66 ho67 hb hg_ hnew_
              clear hg_ hnew_
              (first | rw [← Ny205.out] at ho67 | (simp only [Int.reduceToNat] at ho67; rw [← Ny205.out] at ho67))
              have n0_ := Aside0.mk (Kd.R_elder' (by (with_reducible repeat (first | apply Kd.R_alloc | apply Kd.R_drewN | apply Kd.R_drew)); exact HO174.out) (Kd.R_base ho67) hb)
              have n1_ := Aside0.mk (Kd.R_elder' (by (with_reducible repeat (first | apply Kd.R_alloc | apply Kd.R_drewN | apply Kd.R_drew)); exact HO193.out) (Kd.R_base ho67) hb)
              have n2_ := Aside0.mk (Kd.R_lower (Kd.R_newB (Kd.R_new' (Kd.R_new' ho67 (Kd.R_lt (by (with_reducible repeat (first | apply Kd.R_alloc | apply Kd.R_drewN | apply Kd.R_drew)); exact HO174.out))) (Kd.R_lt (by (with_reducible repeat (first | apply Kd.R_alloc | apply Kd.R_drewN | apply Kd.R_drew)); exact HO193.out))) (g := gb177) (o := .cells #[.int .i8 t175, .int .i8 t176] 26 (0, 0)) (by (with_reducible repeat first | apply bN | apply bD | apply bA); exact BK177.out)) (below_size (by repeat (first | (with_reducible first | exact HB.out | apply below_alloc | apply pw_below_drewN | apply below_drew1 | refine below_set ?_ GE177.out) | exact HB.out))))
              have n3_ := Aside0.mk (blk_below (g := gb177) (o := .cells #[.int .i8 t175, .int .i8 t176] 26 (0, 0)) (by (with_reducible repeat first | apply bN | apply bD | apply bA); exact BK177.out) hb)
              have n4_ := Aside0.mk (below_step (by repeat (first | (with_reducible first | exact HB.out | apply below_alloc | apply pw_below_drewN | apply below_drew1 | refine below_set ?_ GE177.out) | exact HB.out)) hb)
              clear HO174
              clear HO193
              clear BK177
              clear HB
              have HO174 := n0_
              have HO193 := n1_
              have HO207 := n2_
              have BK177 := n3_
              have HB := n4_
              clear n0_ n1_ n2_ n3_ n4_
              clear hb ho67
              obtain ⟨Ao68, co68, eo68⟩ := Kd.R_slice HO207.out
              (first | subst eo68 | (injection eo68 with f1_ f2_ f3_; have f4_ := f1_.symm; have f5_ := f3_.symm; clear f1_ f2_ f3_; subst f4_; subst f5_))
              refine hK.out _ _ ⟨(blk_cell BK177.out 0).trans rfl, (blk_cell BK177.out 1).trans rfl⟩ (fun hHeld => ?_)
              clear hK K
              refine norm_ (a' := ?_) ?_ ?_
              rotate_left
              ·show Act.put _ (some 48) _ = _
               simp only [Act.put, List.setIfInBounds_toArray, List.set_cons_zero, List.set_cons_succ, i64_w, i32_w]
               rfl
              refine one_ (i := 35) (N := some 49) #[true, true, true, true, true, true, true, true, true, true, true, true, true, true, true, true, true, true, true, true, true, true, true, true, true, true, true, true, true, true, true, true, true, true, true, true, false, false, false, false, false, false, false, false, false, false, false, false, false, false, false, false, false, false, false, false, false, false, false, false, false, false, false, false, false, false, false, false, false, false] rfl rfl (one_of HT_.out (by kernel_rfl)) (by decide) (fun K hK => ?_)
              refine goes_ Tryd.func20 (by kernel_rfl) rfl #[.slice Ao68 y205.length co68] (by rfl) rfl rfl (by (try simp only [List.map_toArray, List.map_cons, List.map_nil]); first | done | rfl | (simp only [List.length_drop, List.length_take]; rfl)) ?_
              with_reducible refine (strength_Combine.calls k _ _ y205 t208 t209 _ ?side1 ?side2 A24.out).mono ?_
              (case side1 => repeat (first | exact (Kd.R_reads' HO207.out).2.2 | (with_reducible refine Kd.C_alloc ?_ _) | (with_reducible refine Kd.C_drewN ?_ _) | (with_reducible refine Kd.C_drew ?_)))
              (case side2 => exact (Kd.R_reads' HO207.out).2.1)
              rintro e w69 ⟨rfl, hb⟩
              refine ⟨_, rfl, ?_⟩
              have n0_ := Aside0.mk (Kd.R_below (by (with_reducible repeat (first | apply Kd.R_alloc | apply Kd.R_drewN | apply Kd.R_drew)); exact HO174.out) hb)
              have n1_ := Aside0.mk (Kd.R_below (by (with_reducible repeat (first | apply Kd.R_alloc | apply Kd.R_drewN | apply Kd.R_drew)); exact HO193.out) hb)
              have n2_ := Aside0.mk (Kd.R_below (by (with_reducible repeat (first | apply Kd.R_alloc | apply Kd.R_drewN | apply Kd.R_drew)); exact HO207.out) hb)
              have n3_ := Aside0.mk (blk_below (g := gb177) (o := .cells #[.int .i8 t175, .int .i8 t176] 26 (0, 0)) (by (with_reducible repeat first | apply bN | apply bD | apply bA); exact BK177.out) hb)
              have n4_ := Aside0.mk (below_step (by repeat (first | (with_reducible first | exact HB.out | apply below_alloc | apply pw_below_drewN | apply below_drew1 | refine below_set ?_ GE177.out) | exact HB.out)) hb)
              clear HO174
              clear HO193
              clear HO207
              clear BK177
              clear HB
              have HO174 := n0_
              have HO193 := n1_
              have HO207 := n2_
              have BK177 := n3_
              have HB := n4_
              clear n0_ n1_ n2_ n3_ n4_
              (try clear hb)
              (try clear hb2)
              (try clear hk)
              (try clear hi)
              refine hK.out _ _ ⟨(blk_cell BK177.out 0).trans rfl, (blk_cell BK177.out 1).trans rfl⟩ (fun hHeld => ?_)
              clear hK K
              refine norm_ (a' := ?_) ?_ ?_
              rotate_left
              ·show Act.put _ (some 49) _ = _
               simp only [Act.put, List.setIfInBounds_toArray, List.set_cons_zero, List.set_cons_succ, i64_w, i32_w]
               rfl
              refine one_ (i := 36) (N := some 50) #[true, true, true, true, true, true, true, true, true, true, true, true, true, true, true, true, true, true, true, true, true, true, true, true, true, true, true, true, true, true, true, true, true, true, true, true, true, false, false, false, false, false, false, false, false, false, false, false, false, false, false, false, false, false, false, false, false, false, false, false, false, false, false, false, false, false, false, false, false, false] rfl rfl (one_of HT_.out (by kernel_rfl)) (by decide) (fun K hK => ?_)
              refine goes_ Tryd.func21 (by kernel_rfl) rfl #[.int .i8 (-4), .int .i8 5] (by rfl) rfl rfl (by (try simp only [List.map_toArray, List.map_cons, List.map_nil]); first | done | rfl | (simp only [List.length_drop, List.length_take]; rfl)) ?_
              with_reducible refine (netlablaw02_to.calls (-4) 5 t210 t211 _ A25.out).mono ?_
              rintro e w70 ⟨rfl, hb⟩
              refine ⟨_, rfl, ?_⟩
              have n0_ := Aside0.mk (Kd.R_below (by (with_reducible repeat (first | apply Kd.R_alloc | apply Kd.R_drewN | apply Kd.R_drew)); exact HO174.out) hb)
              have n1_ := Aside0.mk (Kd.R_below (by (with_reducible repeat (first | apply Kd.R_alloc | apply Kd.R_drewN | apply Kd.R_drew)); exact HO193.out) hb)
              have n2_ := Aside0.mk (Kd.R_below (by (with_reducible repeat (first | apply Kd.R_alloc | apply Kd.R_drewN | apply Kd.R_drew)); exact HO207.out) hb)
              have n3_ := Aside0.mk (blk_below (g := gb177) (o := .cells #[.int .i8 t175, .int .i8 t176] 26 (0, 0)) (by (with_reducible repeat first | apply bN | apply bD | apply bA); exact BK177.out) hb)
              have n4_ := Aside0.mk (below_step (by repeat (first | (with_reducible first | exact HB.out | apply below_alloc | apply pw_below_drewN | apply below_drew1 | refine below_set ?_ GE177.out) | exact HB.out)) hb)
              clear HO174
              clear HO193
              clear HO207
              clear BK177
              clear HB
              have HO174 := n0_
              have HO193 := n1_
              have HO207 := n2_
              have BK177 := n3_
              have HB := n4_
              clear n0_ n1_ n2_ n3_ n4_
              (try clear hb)
              (try clear hb2)
              (try clear hk)
              (try clear hi)
              refine hK.out _ _ ⟨(blk_cell BK177.out 0).trans rfl, (blk_cell BK177.out 1).trans rfl⟩ (fun hHeld => ?_)
              clear hK K
              refine norm_ (a' := ?_) ?_ ?_
              rotate_left
              ·show Act.put _ (some 50) _ = _
               simp only [Act.put, List.setIfInBounds_toArray, List.set_cons_zero, List.set_cons_succ, i64_w, i32_w]
               rfl
              refine pure_ (i := 37) (N := some 51) (v := ?_) (a' := ?_) #[true, true, true, true, true, true, true, true, true, true, true, true, true, true, true, true, true, true, true, true, true, true, true, true, true, true, true, true, true, true, true, true, true, true, true, true, true, true, false, false, false, false, false, false, false, false, false, false, false, false, false, false, false, false, false, false, false, false, false, false, false, false, false, false, false, false, false, false, false, false] rfl rfl (any_of HT_.out (by kernel_rfl)) (fun _ _ _ h => h) (Or.inl ⟨by rfl, ?_⟩) ?_ ?_
              rotate_left
              ·intro w'
               go_simp
               with_reducible rfl
              rotate_left
              ·simp only [Act.put, List.setIfInBounds_toArray, List.set_cons_zero, List.set_cons_succ, i64_w, i32_w]
               rfl
              refine pure_ (i := 38) (N := some 52) (v := ?_) (a' := ?_) #[true, true, true, true, true, true, true, true, true, true, true, true, true, true, true, true, true, true, true, true, true, true, true, true, true, true, true, true, true, true, true, true, true, true, true, true, true, true, true, false, false, false, false, false, false, false, false, false, false, false, false, false, false, false, false, false, false, false, false, false, false, false, false, false, false, false, false, false, false, false] rfl rfl (any_of HT_.out (by kernel_rfl)) (fun _ _ _ h => h) (Or.inl ⟨by rfl, ?_⟩) ?_ ?_
              rotate_left
              ·intro w'
               go_simp
               with_reducible rfl
              rotate_left
              ·simp only [Act.put, List.setIfInBounds_toArray, List.set_cons_zero, List.set_cons_succ, i64_w, i32_w]
               rfl
              refine pure_ (i := 39) (N := some 53) (v := ?_) (a' := ?_) #[true, true, true, true, true, true, true, true, true, true, true, true, true, true, true, true, true, true, true, true, true, true, true, true, true, true, true, true, true, true, true, true, true, true, true, true, true, true, true, true, false, false, false, false, false, false, false, false, false, false, false, false, false, false, false, false, false, false, false, false, false, false, false, false, false, false, false, false, false, false] rfl rfl (any_of HT_.out (by kernel_rfl)) (fun _ _ _ h => h) (Or.inl ⟨by rfl, ?_⟩) ?_ ?_
              rotate_left
              ·intro w'
               go_simp
               with_reducible rfl
              rotate_left
              ·simp only [Act.put, List.setIfInBounds_toArray, List.set_cons_zero, List.set_cons_succ, i64_w, i32_w]
               rfl
              refine one_ (i := 40) (N := some 54) #[true, true, true, true, true, true, true, true, true, true, true, true, true, true, true, true, true, true, true, true, true, true, true, true, true, true, true, true, true, true, true, true, true, true, true, true, true, true, true, true, true, false, false, false, false, false, false, false, false, false, false, false, false, false, false, false, false, false, false, false, false, false, false, false, false, false, false, false, false, false] rfl rfl (one_of HT_.out (by kernel_rfl)) (by decide) (fun K hK => ?_)
              refine goes_ Tryd.func21 (by kernel_rfl) rfl #[.int .i8 0, .int .i8 0] (by rfl) rfl rfl (by (try simp only [List.map_toArray, List.map_cons, List.map_nil]); first | done | rfl | (simp only [List.length_drop, List.length_take]; rfl)) ?_
              with_reducible refine (netlablaw02_to.calls 0 0 t212 t213 _ A27.out).mono ?_
              rintro e w71 ⟨rfl, hb⟩
              refine ⟨_, rfl, ?_⟩
              have n0_ := Aside0.mk (Kd.R_below (by (with_reducible repeat (first | apply Kd.R_alloc | apply Kd.R_drewN | apply Kd.R_drew)); exact HO174.out) hb)
              have n1_ := Aside0.mk (Kd.R_below (by (with_reducible repeat (first | apply Kd.R_alloc | apply Kd.R_drewN | apply Kd.R_drew)); exact HO193.out) hb)
              have n2_ := Aside0.mk (Kd.R_below (by (with_reducible repeat (first | apply Kd.R_alloc | apply Kd.R_drewN | apply Kd.R_drew)); exact HO207.out) hb)
              have n3_ := Aside0.mk (blk_below (g := gb177) (o := .cells #[.int .i8 t175, .int .i8 t176] 26 (0, 0)) (by (with_reducible repeat first | apply bN | apply bD | apply bA); exact BK177.out) hb)
              have n4_ := Aside0.mk (below_step (by repeat (first | (with_reducible first | exact HB.out | apply below_alloc | apply pw_below_drewN | apply below_drew1 | refine below_set ?_ GE177.out) | exact HB.out)) hb)
              clear HO174
              clear HO193
              clear HO207
              clear BK177
              clear HB
              have HO174 := n0_
              have HO193 := n1_
              have HO207 := n2_
              have BK177 := n3_
              have HB := n4_
              clear n0_ n1_ n2_ n3_ n4_
              (try clear hb)
              (try clear hb2)
              (try clear hk)
              (try clear hi)
              refine hK.out _ _ ⟨(blk_cell BK177.out 0).trans rfl, (blk_cell BK177.out 1).trans rfl⟩ (fun hHeld => ?_)
              clear hK K
              refine norm_ (a' := ?_) ?_ ?_
              rotate_left
              ·show Act.put _ (some 54) _ = _
               simp only [Act.put, List.setIfInBounds_toArray, List.set_cons_zero, List.set_cons_succ, i64_w, i32_w]
               rfl
              refine one_ (i := 41) (N := some 55) #[true, true, true, true, true, true, true, true, true, true, true, true, true, true, true, true, true, true, true, true, true, true, true, true, true, true, true, true, true, true, true, true, true, true, true, true, true, true, true, true, true, true, false, false, false, false, false, false, false, false, false, false, false, false, false, false, false, false, false, false, false, false, false, false, false, false, false, false, false, false] rfl rfl (one_of HT_.out (by kernel_rfl)) (by decide) (fun K hK => ?_)
              refine goes_ Tryd.func28 (by kernel_rfl) rfl #[.agg #[.int .i8 t212, .int .i8 t213]] (by rfl) rfl rfl (by (try simp only [List.map_toArray, List.map_cons, List.map_nil]); first | done | rfl | (simp only [List.length_drop, List.length_take]; rfl)) ?_
              with_reducible refine (strength_Read.calls t212 t213 t214 _ A28.out).mono ?_
              rintro e w72 ⟨rfl, hb⟩
              refine ⟨_, rfl, ?_⟩
              have n0_ := Aside0.mk (Kd.R_below (by (with_reducible repeat (first | apply Kd.R_alloc | apply Kd.R_drewN | apply Kd.R_drew)); exact HO174.out) hb)
              have n1_ := Aside0.mk (Kd.R_below (by (with_reducible repeat (first | apply Kd.R_alloc | apply Kd.R_drewN | apply Kd.R_drew)); exact HO193.out) hb)
              have n2_ := Aside0.mk (Kd.R_below (by (with_reducible repeat (first | apply Kd.R_alloc | apply Kd.R_drewN | apply Kd.R_drew)); exact HO207.out) hb)
              have n3_ := Aside0.mk (blk_below (g := gb177) (o := .cells #[.int .i8 t175, .int .i8 t176] 26 (0, 0)) (by (with_reducible repeat first | apply bN | apply bD | apply bA); exact BK177.out) hb)
              have n4_ := Aside0.mk (below_step (by repeat (first | (with_reducible first | exact HB.out | apply below_alloc | apply pw_below_drewN | apply below_drew1 | refine below_set ?_ GE177.out) | exact HB.out)) hb)
              clear HO174
              clear HO193
              clear HO207
              clear BK177
              clear HB
              have HO174 := n0_
              have HO193 := n1_
              have HO207 := n2_
              have BK177 := n3_
              have HB := n4_
              clear n0_ n1_ n2_ n3_ n4_
              (try clear hb)
              (try clear hb2)
              (try clear hk)
              (try clear hi)
              refine hK.out _ _ ⟨(blk_cell BK177.out 0).trans rfl, (blk_cell BK177.out 1).trans rfl⟩ (fun hHeld => ?_)
              clear hK K
              refine norm_ (a' := ?_) ?_ ?_
              rotate_left
              ·show Act.put _ (some 55) _ = _
               simp only [Act.put, List.setIfInBounds_toArray, List.set_cons_zero, List.set_cons_succ, i64_w, i32_w]
               rfl
              refine pure_ (i := 42) (N := some 56) (v := ?_) (a' := ?_) #[true, true, true, true, true, true, true, true, true, true, true, true, true, true, true, true, true, true, true, true, true, true, true, true, true, true, true, true, true, true, true, true, true, true, true, true, true, true, true, true, true, true, true, false, false, false, false, false, false, false, false, false, false, false, false, false, false, false, false, false, false, false, false, false, false, false, false, false, false, false] rfl rfl (any_of HT_.out (by kernel_rfl)) (fun _ _ _ h => h) (Or.inl ⟨by rfl, ?_⟩) ?_ ?_
              rotate_left
              ·intro w'
               go_simp
               with_reducible rfl
              rotate_left
              ·simp only [Act.put, List.setIfInBounds_toArray, List.set_cons_zero, List.set_cons_succ, i64_w, i32_w]
               rfl
              refine pure_ (i := 43) (N := some 57) (v := ?_) (a' := ?_) #[true, true, true, true, true, true, true, true, true, true, true, true, true, true, true, true, true, true, true, true, true, true, true, true, true, true, true, true, true, true, true, true, true, true, true, true, true, true, true, true, true, true, true, true, false, false, false, false, false, false, false, false, false, false, false, false, false, false, false, false, false, false, false, false, false, false, false, false, false, false] rfl rfl (any_of HT_.out (by kernel_rfl)) (fun _ _ _ h => h) (Or.inl ⟨by rfl, ?_⟩) ?_ ?_
              rotate_left
              ·intro w'
               go_simp
               with_reducible rfl
              rotate_left
              ·simp only [Act.put, List.setIfInBounds_toArray, List.set_cons_zero, List.set_cons_succ, i64_w, i32_w]
               rfl
              refine pure_ (i := 44) (N := some 58) (v := ?_) (a' := ?_) #[true, true, true, true, true, true, true, true, true, true, true, true, true, true, true, true, true, true, true, true, true, true, true, true, true, true, true, true, true, true, true, true, true, true, true, true, true, true, true, true, true, true, true, true, true, false, false, false, false, false, false, false, false, false, false, false, false, false, false, false, false, false, false, false, false, false, false, false, false, false] rfl rfl (any_of HT_.out (by kernel_rfl)) (fun _ _ _ h => h) (Or.inl ⟨by rfl, ?_⟩) ?_ ?_
              rotate_left
              ·intro w'
               go_simp
               with_reducible rfl
              rotate_left
              ·simp only [Act.put, List.setIfInBounds_toArray, List.set_cons_zero, List.set_cons_succ, i64_w, i32_w]
               rfl
              refine one_ (i := 45) (N := some 59) #[true, true, true, true, true, true, true, true, true, true, true, true, true, true, true, true, true, true, true, true, true, true, true, true, true, true, true, true, true, true, true, true, true, true, true, true, true, true, true, true, true, true, true, true, true, true, false, false, false, false, false, false, false, false, false, false, false, false, false, false, false, false, false, false, false, false, false, false, false, false] rfl rfl (one_of HT_.out (by kernel_rfl)) (by decide) (fun K hK => ?_)
              refine goes_ Tryd.func21 (by kernel_rfl) rfl #[.int .i8 0, .int .i8 3] (by rfl) rfl rfl (by (try simp only [List.map_toArray, List.map_cons, List.map_nil]); first | done | rfl | (simp only [List.length_drop, List.length_take]; rfl)) ?_
              with_reducible refine (netlablaw02_to.calls 0 3 t215 t216 _ A30.out).mono ?_
              rintro e w73 ⟨rfl, hb⟩
              refine ⟨_, rfl, ?_⟩
              have n0_ := Aside0.mk (Kd.R_below (by (with_reducible repeat (first | apply Kd.R_alloc | apply Kd.R_drewN | apply Kd.R_drew)); exact HO174.out) hb)
              have n1_ := Aside0.mk (Kd.R_below (by (with_reducible repeat (first | apply Kd.R_alloc | apply Kd.R_drewN | apply Kd.R_drew)); exact HO193.out) hb)
              have n2_ := Aside0.mk (Kd.R_below (by (with_reducible repeat (first | apply Kd.R_alloc | apply Kd.R_drewN | apply Kd.R_drew)); exact HO207.out) hb)
              have n3_ := Aside0.mk (blk_below (g := gb177) (o := .cells #[.int .i8 t175, .int .i8 t176] 26 (0, 0)) (by (with_reducible repeat first | apply bN | apply bD | apply bA); exact BK177.out) hb)
              have n4_ := Aside0.mk (below_step (by repeat (first | (with_reducible first | exact HB.out | apply below_alloc | apply pw_below_drewN | apply below_drew1 | refine below_set ?_ GE177.out) | exact HB.out)) hb)
              clear HO174
              clear HO193
              clear HO207
              clear BK177
              clear HB
              have HO174 := n0_
              have HO193 := n1_
              have HO207 := n2_
              have BK177 := n3_
              have HB := n4_
              clear n0_ n1_ n2_ n3_ n4_
              (try clear hb)
              (try clear hb2)
              (try clear hk)
              (try clear hi)
              refine hK.out _ _ ⟨(blk_cell BK177.out 0).trans rfl, (blk_cell BK177.out 1).trans rfl⟩ (fun hHeld => ?_)
              clear hK K
              refine norm_ (a' := ?_) ?_ ?_
              rotate_left
              ·show Act.put _ (some 59) _ = _
               simp only [Act.put, List.setIfInBounds_toArray, List.set_cons_zero, List.set_cons_succ, i64_w, i32_w]
               rfl
              refine one_ (i := 46) (N := some 60) #[true, true, true, true, true, true, true, true, true, true, true, true, true, true, true, true, true, true, true, true, true, true, true, true, true, true, true, true, true, true, true, true, true, true, true, true, true, true, true, true, true, true, true, true, true, true, true, false, false, false, false, false, false, false, false, false, false, false, false, false, false, false, false, false, false, false, false, false, false, false] rfl rfl (one_of HT_.out (by kernel_rfl)) (by decide) (fun K hK => ?_)
              refine goes_ Tryd.func28 (by kernel_rfl) rfl #[.agg #[.int .i8 t215, .int .i8 t216]] (by rfl) rfl rfl (by (try simp only [List.map_toArray, List.map_cons, List.map_nil]); first | done | rfl | (simp only [List.length_drop, List.length_take]; rfl)) ?_
              with_reducible refine (strength_Read.calls t215 t216 t217 _ A31.out).mono ?_
              rintro e w74 ⟨rfl, hb⟩
              refine ⟨_, rfl, ?_⟩
              have n0_ := Aside0.mk (Kd.R_below (by (with_reducible repeat (first | apply Kd.R_alloc | apply Kd.R_drewN | apply Kd.R_drew)); exact HO174.out) hb)
              have n1_ := Aside0.mk (Kd.R_below (by (with_reducible repeat (first | apply Kd.R_alloc | apply Kd.R_drewN | apply Kd.R_drew)); exact HO193.out) hb)
              have n2_ := Aside0.mk (Kd.R_below (by (with_reducible repeat (first | apply Kd.R_alloc | apply Kd.R_drewN | apply Kd.R_drew)); exact HO207.out) hb)
              have n3_ := Aside0.mk (blk_below (g := gb177) (o := .cells #[.int .i8 t175, .int .i8 t176] 26 (0, 0)) (by (with_reducible repeat first | apply bN | apply bD | apply bA); exact BK177.out) hb)
              have n4_ := Aside0.mk (below_step (by repeat (first | (with_reducible first | exact HB.out | apply below_alloc | apply pw_below_drewN | apply below_drew1 | refine below_set ?_ GE177.out) | exact HB.out)) hb)
              clear HO174
              clear HO193
              clear HO207
              clear BK177
              clear HB
              have HO174 := n0_
              have HO193 := n1_
              have HO207 := n2_
              have BK177 := n3_
              have HB := n4_
              clear n0_ n1_ n2_ n3_ n4_
              (try clear hb)
              (try clear hb2)
              (try clear hk)
              (try clear hi)
              refine hK.out _ _ ⟨(blk_cell BK177.out 0).trans rfl, (blk_cell BK177.out 1).trans rfl⟩ (fun hHeld => ?_)
              clear hK K
              refine norm_ (a' := ?_) ?_ ?_
              rotate_left
              ·show Act.put _ (some 60) _ = _
               simp only [Act.put, List.setIfInBounds_toArray, List.set_cons_zero, List.set_cons_succ, i64_w, i32_w]
               rfl
              refine pure_ (i := 47) (N := some 61) (v := ?_) (a' := ?_) #[true, true, true, true, true, true, true, true, true, true, true, true, true, true, true, true, true, true, true, true, true, true, true, true, true, true, true, true, true, true, true, true, true, true, true, true, true, true, true, true, true, true, true, true, true, true, true, true, false, false, false, false, false, false, false, false, false, false, false, false, false, false, false, false, false, false, false, false, false, false] rfl rfl (any_of HT_.out (by kernel_rfl)) (fun _ _ _ h => h) (Or.inl ⟨by rfl, ?_⟩) ?_ ?_
              rotate_left
              ·intro w'
               go_simp
               with_reducible rfl
              rotate_left
              ·simp only [Act.put, List.setIfInBounds_toArray, List.set_cons_zero, List.set_cons_succ, i64_w, i32_w]
               rfl
              refine pure_ (i := 48) (N := some 62) (v := ?_) (a' := ?_) #[true, true, true, true, true, true, true, true, true, true, true, true, true, true, true, true, true, true, true, true, true, true, true, true, true, true, true, true, true, true, true, true, true, true, true, true, true, true, true, true, true, true, true, true, true, true, true, true, true, false, false, false, false, false, false, false, false, false, false, false, false, false, false, false, false, false, false, false, false, false] rfl rfl (any_of HT_.out (by kernel_rfl)) (fun _ _ _ h => h) (Or.inl ⟨by rfl, ?_⟩) ?_ ?_
              rotate_left
              ·intro w'
               go_simp
               with_reducible rfl
              rotate_left
              ·simp only [Act.put, List.setIfInBounds_toArray, List.set_cons_zero, List.set_cons_succ, i64_w, i32_w]
               rfl
              refine pure_ (i := 49) (N := some 63) (v := ?_) (a' := ?_) #[true, true, true, true, true, true, true, true, true, true, true, true, true, true, true, true, true, true, true, true, true, true, true, true, true, true, true, true, true, true, true, true, true, true, true, true, true, true, true, true, true, true, true, true, true, true, true, true, true, true, false, false, false, false, false, false, false, false, false, false, false, false, false, false, false, false, false, false, false, false] rfl rfl (any_of HT_.out (by kernel_rfl)) (fun _ _ _ h => h) (Or.inl ⟨by rfl, ?_⟩) ?_ ?_
              rotate_left
              ·intro w'
               go_simp
               with_reducible rfl
              rotate_left
              ·simp only [Act.put, List.setIfInBounds_toArray, List.set_cons_zero, List.set_cons_succ, i64_w, i32_w]
               rfl
              refine one_ (i := 50) (N := some 64) #[true, true, true, true, true, true, true, true, true, true, true, true, true, true, true, true, true, true, true, true, true, true, true, true, true, true, true, true, true, true, true, true, true, true, true, true, true, true, true, true, true, true, true, true, true, true, true, true, true, true, true, false, false, false, false, false, false, false, false, false, false, false, false, false, false, false, false, false, false, false] rfl rfl (one_of HT_.out (by kernel_rfl)) (by decide) (fun K hK => ?_)
              refine goes_ Tryd.func21 (by kernel_rfl) rfl #[.int .i8 1, .int .i8 3] (by rfl) rfl rfl (by (try simp only [List.map_toArray, List.map_cons, List.map_nil]); first | done | rfl | (simp only [List.length_drop, List.length_take]; rfl)) ?_
              with_reducible refine (netlablaw02_to.calls 1 3 t218 t219 _ A33.out).mono ?_
              rintro e w75 ⟨rfl, hb⟩
              refine ⟨_, rfl, ?_⟩
              have n0_ := Aside0.mk (Kd.R_below (by (with_reducible repeat (first | apply Kd.R_alloc | apply Kd.R_drewN | apply Kd.R_drew)); exact HO174.out) hb)
              have n1_ := Aside0.mk (Kd.R_below (by (with_reducible repeat (first | apply Kd.R_alloc | apply Kd.R_drewN | apply Kd.R_drew)); exact HO193.out) hb)
              have n2_ := Aside0.mk (Kd.R_below (by (with_reducible repeat (first | apply Kd.R_alloc | apply Kd.R_drewN | apply Kd.R_drew)); exact HO207.out) hb)
              have n3_ := Aside0.mk (blk_below (g := gb177) (o := .cells #[.int .i8 t175, .int .i8 t176] 26 (0, 0)) (by (with_reducible repeat first | apply bN | apply bD | apply bA); exact BK177.out) hb)
              have n4_ := Aside0.mk (below_step (by repeat (first | (with_reducible first | exact HB.out | apply below_alloc | apply pw_below_drewN | apply below_drew1 | refine below_set ?_ GE177.out) | exact HB.out)) hb)
              clear HO174
              clear HO193
              clear HO207
              clear BK177
              clear HB
              have HO174 := n0_
              have HO193 := n1_
              have HO207 := n2_
              have BK177 := n3_
              have HB := n4_
              clear n0_ n1_ n2_ n3_ n4_
              (try clear hb)
              (try clear hb2)
              (try clear hk)
              (try clear hi)
              refine hK.out _ _ ⟨(blk_cell BK177.out 0).trans rfl, (blk_cell BK177.out 1).trans rfl⟩ (fun hHeld => ?_)
              clear hK K
              refine norm_ (a' := ?_) ?_ ?_
              rotate_left
              ·show Act.put _ (some 64) _ = _
               simp only [Act.put, List.setIfInBounds_toArray, List.set_cons_zero, List.set_cons_succ, i64_w, i32_w]
               rfl
              refine one_ (i := 51) (N := some 65) #[true, true, true, true, true, true, true, true, true, true, true, true, true, true, true, true, true, true, true, true, true, true, true, true, true, true, true, true, true, true, true, true, true, true, true, true, true, true, true, true, true, true, true, true, true, true, true, true, true, true, true, true, false, false, false, false, false, false, false, false, false, false, false, false, false, false, false, false, false, false] rfl rfl (one_of HT_.out (by kernel_rfl)) (by decide) (fun K hK => ?_)
              refine goes_ Tryd.func28 (by kernel_rfl) rfl #[.agg #[.int .i8 t218, .int .i8 t219]] (by rfl) rfl rfl (by (try simp only [List.map_toArray, List.map_cons, List.map_nil]); first | done | rfl | (simp only [List.length_drop, List.length_take]; rfl)) ?_
              with_reducible refine (strength_Read.calls t218 t219 t220 _ A34.out).mono ?_
              rintro e w76 ⟨rfl, hb⟩
              refine ⟨_, rfl, ?_⟩
              have n0_ := Aside0.mk (Kd.R_below (by (with_reducible repeat (first | apply Kd.R_alloc | apply Kd.R_drewN | apply Kd.R_drew)); exact HO174.out) hb)
              have n1_ := Aside0.mk (Kd.R_below (by (with_reducible repeat (first | apply Kd.R_alloc | apply Kd.R_drewN | apply Kd.R_drew)); exact HO193.out) hb)
              have n2_ := Aside0.mk (Kd.R_below (by (with_reducible repeat (first | apply Kd.R_alloc | apply Kd.R_drewN | apply Kd.R_drew)); exact HO207.out) hb)
              have n3_ := Aside0.mk (blk_below (g := gb177) (o := .cells #[.int .i8 t175, .int .i8 t176] 26 (0, 0)) (by (with_reducible repeat first | apply bN | apply bD | apply bA); exact BK177.out) hb)
              have n4_ := Aside0.mk (below_step (by repeat (first | (with_reducible first | exact HB.out | apply below_alloc | apply pw_below_drewN | apply below_drew1 | refine below_set ?_ GE177.out) | exact HB.out)) hb)
              clear HO174
              clear HO193
              clear HO207
              clear BK177
              clear HB
              have HO174 := n0_
              have HO193 := n1_
              have HO207 := n2_
              have BK177 := n3_
              have HB := n4_
              clear n0_ n1_ n2_ n3_ n4_
              (try clear hb)
              (try clear hb2)
              (try clear hk)
              (try clear hi)
              refine hK.out _ _ ⟨(blk_cell BK177.out 0).trans rfl, (blk_cell BK177.out 1).trans rfl⟩ (fun hHeld => ?_)
              clear hK K
              refine norm_ (a' := ?_) ?_ ?_
              rotate_left
              ·show Act.put _ (some 65) _ = _
               simp only [Act.put, List.setIfInBounds_toArray, List.set_cons_zero, List.set_cons_succ, i64_w, i32_w]
               rfl
              refine pure_ (i := 52) (N := some 66) (v := ?_) (a' := ?_) #[true, true, true, true, true, true, true, true, true, true, true, true, true, true, true, true, true, true, true, true, true, true, true, true, true, true, true, true, true, true, true, true, true, true, true, true, true, true, true, true, true, true, true, true, true, true, true, true, true, true, true, true, true, false, false, false, false, false, false, false, false, false, false, false, false, false, false, false, false, false] rfl rfl (any_of HT_.out (by kernel_rfl)) (fun _ _ _ h => h) (Or.inl ⟨by rfl, ?_⟩) ?_ ?_
              rotate_left
              ·intro w'
               go_simp
               with_reducible rfl
              rotate_left
              ·simp only [Act.put, List.setIfInBounds_toArray, List.set_cons_zero, List.set_cons_succ, i64_w, i32_w]
               rfl
              refine pure_ (i := 53) (N := some 67) (v := ?_) (a' := ?_) #[true, true, true, true, true, true, true, true, true, true, true, true, true, true, true, true, true, true, true, true, true, true, true, true, true, true, true, true, true, true, true, true, true, true, true, true, true, true, true, true, true, true, true, true, true, true, true, true, true, true, true, true, true, true, false, false, false, false, false, false, false, false, false, false, false, false, false, false, false, false] rfl rfl (any_of HT_.out (by kernel_rfl)) (fun _ _ _ h => h) (Or.inl ⟨by rfl, ?_⟩) ?_ ?_
              rotate_left
              ·intro w'
               go_simp
               with_reducible rfl
              rotate_left
              ·simp only [Act.put, List.setIfInBounds_toArray, List.set_cons_zero, List.set_cons_succ, i64_w, i32_w]
               rfl
              refine pure_ (i := 54) (N := some 68) (v := ?_) (a' := ?_) #[true, true, true, true, true, true, true, true, true, true, true, true, true, true, true, true, true, true, true, true, true, true, true, true, true, true, true, true, true, true, true, true, true, true, true, true, true, true, true, true, true, true, true, true, true, true, true, true, true, true, true, true, true, true, true, false, false, false, false, false, false, false, false, false, false, false, false, false, false, false] rfl rfl (any_of HT_.out (by kernel_rfl)) (fun _ _ _ h => h) (Or.inl ⟨by rfl, ?_⟩) ?_ ?_
              rotate_left
              ·intro w'
               go_simp
               with_reducible rfl
              rotate_left
              ·simp only [Act.put, List.setIfInBounds_toArray, List.set_cons_zero, List.set_cons_succ, i64_w, i32_w]
               rfl
              refine one_ (i := 55) (N := some 69) #[true, true, true, true, true, true, true, true, true, true, true, true, true, true, true, true, true, true, true, true, true, true, true, true, true, true, true, true, true, true, true, true, true, true, true, true, true, true, true, true, true, true, true, true, true, true, true, true, true, true, true, true, true, true, true, true, false, false, false, false, false, false, false, false, false, false, false, false, false, false] rfl rfl (one_of HT_.out (by kernel_rfl)) (by decide) (fun K hK => ?_)
              refine goes_ Tryd.func15 (by kernel_rfl) rfl #[.int .u8 5, .bool true] (by rfl) rfl rfl (by (try simp only [List.map_toArray, List.map_cons, List.map_nil]); first | done | rfl | (simp only [List.length_drop, List.length_take]; rfl)) ?_
              with_reducible refine (strength_Name.calls 5 true t221 _ (Glob.below HG.out (by repeat (first | (with_reducible first | exact HB.out | apply below_alloc | apply pw_below_drewN | apply below_drew1 | refine below_set ?_ GE177.out) | exact HB.out))) A36.out).mono ?_
              rintro e w' ⟨rfl, ⟨nd, rfl⟩⟩
              refine ⟨_, rfl, ?_⟩
              refine hK.out _ _ ⟨(blk_cell BK177.out 0).trans rfl, (blk_cell BK177.out 1).trans rfl⟩ (fun hHeld => ?_)
              clear hK K
              refine norm_ (a' := ?_) ?_ ?_
              rotate_left
              ·show Act.put _ (some 69) _ = _
               simp only [Act.put, List.setIfInBounds_toArray, List.set_cons_zero, List.set_cons_succ, i64_w, i32_w]
               rfl
              refine pure_ (i := 56) (N := some 70) (v := ?_) (a' := ?_) #[true, true, true, true, true, true, true, true, true, true, true, true, true, true, true, true, true, true, true, true, true, true, true, true, true, true, true, true, true, true, true, true, true, true, true, true, true, true, true, true, true, true, true, true, true, true, true, true, true, true, true, true, true, true, true, true, true, false, false, false, false, false, false, false, false, false, false, false, false, false] rfl rfl (any_of HT_.out (by kernel_rfl)) (fun _ _ _ h => h) (Or.inl ⟨by rfl, ?_⟩) ?_ ?_
              rotate_left
              ·intro w'
               go_simp
               with_reducible rfl
              rotate_left
              ·simp only [Act.put, List.setIfInBounds_toArray, List.set_cons_zero, List.set_cons_succ, i64_w, i32_w]
               rfl
              refine pure_ (i := 57) (N := some 71) (v := ?_) (a' := ?_) #[true, true, true, true, true, true, true, true, true, true, true, true, true, true, true, true, true, true, true, true, true, true, true, true, true, true, true, true, true, true, true, true, true, true, true, true, true, true, true, true, true, true, true, true, true, true, true, true, true, true, true, true, true, true, true, true, true, true, false, false, false, false, false, false, false, false, false, false, false, false] rfl rfl (any_of HT_.out (by kernel_rfl)) (fun _ _ _ h => h) (Or.inl ⟨by rfl, ?_⟩) ?_ ?_
              rotate_left
              ·intro w'
               go_simp
               with_reducible rfl
              rotate_left
              ·simp only [Act.put, List.setIfInBounds_toArray, List.set_cons_zero, List.set_cons_succ, i64_w, i32_w]
               rfl
              refine pure_ (i := 58) (N := some 72) (v := ?_) (a' := ?_) #[true, true, true, true, true, true, true, true, true, true, true, true, true, true, true, true, true, true, true, true, true, true, true, true, true, true, true, true, true, true, true, true, true, true, true, true, true, true, true, true, true, true, true, true, true, true, true, true, true, true, true, true, true, true, true, true, true, true, true, false, false, false, false, false, false, false, false, false, false, false] rfl rfl (any_of HT_.out (by kernel_rfl)) (fun _ _ _ h => h) (Or.inl ⟨by rfl, ?_⟩) ?_ ?_
              rotate_left
              ·intro w'
               go_simp
               with_reducible rfl
              rotate_left
              ·simp only [Act.put, List.setIfInBounds_toArray, List.set_cons_zero, List.set_cons_succ, i64_w, i32_w]
               rfl
              refine pure_ (i := 59) (N := some 73) (v := ?_) (a' := ?_) #[true, true, true, true, true, true, true, true, true, true, true, true, true, true, true, true, true, true, true, true, true, true, true, true, true, true, true, true, true, true, true, true, true, true, true, true, true, true, true, true, true, true, true, true, true, true, true, true, true, true, true, true, true, true, true, true, true, true, true, true, false, false, false, false, false, false, false, false, false, false] rfl rfl (any_of HT_.out (by kernel_rfl)) (fun _ _ _ h => h) (Or.inl ⟨by rfl, ?_⟩) ?_ ?_
              rotate_left
              ·intro w'
               go_simp
               with_reducible rfl
              rotate_left
              ·simp only [Act.put, List.setIfInBounds_toArray, List.set_cons_zero, List.set_cons_succ, i64_w, i32_w]
               rfl
              refine pure_ (i := 60) (N := some 74) (v := ?_) (a' := ?_) #[true, true, true, true, true, true, true, true, true, true, true, true, true, true, true, true, true, true, true, true, true, true, true, true, true, true, true, true, true, true, true, true, true, true, true, true, true, true, true, true, true, true, true, true, true, true, true, true, true, true, true, true, true, true, true, true, true, true, true, true, true, false, false, false, false, false, false, false, false, false] rfl rfl (any_of HT_.out (by kernel_rfl)) (fun _ _ _ h => h) (Or.inl ⟨by rfl, ?_⟩) ?_ ?_
              rotate_left
              ·intro w'
               go_simp
               with_reducible rfl
              rotate_left
              ·simp only [Act.put, List.setIfInBounds_toArray, List.set_cons_zero, List.set_cons_succ, i64_w, i32_w]
               rfl
              refine pure_ (i := 61) (N := some 75) (v := ?_) (a' := ?_) #[true, true, true, true, true, true, true, true, true, true, true, true, true, true, true, true, true, true, true, true, true, true, true, true, true, true, true, true, true, true, true, true, true, true, true, true, true, true, true, true, true, true, true, true, true, true, true, true, true, true, true, true, true, true, true, true, true, true, true, true, true, true, false, false, false, false, false, false, false, false] rfl rfl (any_of HT_.out (by kernel_rfl)) (fun _ _ _ h => h) (Or.inl ⟨by rfl, ?_⟩) ?_ ?_
              rotate_left
              ·intro w'
               go_simp
               with_reducible rfl
              rotate_left
              ·simp only [Act.put, List.setIfInBounds_toArray, List.set_cons_zero, List.set_cons_succ, i64_w, i32_w]
               rfl
              refine pure_ (i := 62) (N := some 76) (v := ?_) (a' := ?_) #[true, true, true, true, true, true, true, true, true, true, true, true, true, true, true, true, true, true, true, true, true, true, true, true, true, true, true, true, true, true, true, true, true, true, true, true, true, true, true, true, true, true, true, true, true, true, true, true, true, true, true, true, true, true, true, true, true, true, true, true, true, true, true, false, false, false, false, false, false, false] rfl rfl (any_of HT_.out (by kernel_rfl)) (fun _ _ _ h => h) (Or.inl ⟨by rfl, ?_⟩) ?_ ?_
              rotate_left
              ·intro w'
               go_simp
               with_reducible rfl
              rotate_left
              ·simp only [Act.put, List.setIfInBounds_toArray, List.set_cons_zero, List.set_cons_succ, i64_w, i32_w]
               rfl
              refine pure_ (i := 63) (N := some 77) (v := ?_) (a' := ?_) #[true, true, true, true, true, true, true, true, true, true, true, true, true, true, true, true, true, true, true, true, true, true, true, true, true, true, true, true, true, true, true, true, true, true, true, true, true, true, true, true, true, true, true, true, true, true, true, true, true, true, true, true, true, true, true, true, true, true, true, true, true, true, true, true, false, false, false, false, false, false] rfl rfl (any_of HT_.out (by kernel_rfl)) (fun _ _ _ h => h) (Or.inl ⟨by rfl, ?_⟩) ?_ ?_
              rotate_left
              ·intro w'
               go_simp
               with_reducible rfl
              rotate_left
              ·simp only [Act.put, List.setIfInBounds_toArray, List.set_cons_zero, List.set_cons_succ, i64_w, i32_w]
               rfl
              refine pure_ (i := 64) (N := some 78) (v := ?_) (a' := ?_) #[true, true, true, true, true, true, true, true, true, true, true, true, true, true, true, true, true, true, true, true, true, true, true, true, true, true, true, true, true, true, true, true, true, true, true, true, true, true, true, true, true, true, true, true, true, true, true, true, true, true, true, true, true, true, true, true, true, true, true, true, true, true, true, true, true, false, false, false, false, false] rfl rfl (any_of HT_.out (by kernel_rfl)) (fun _ _ _ h => h) (Or.inl ⟨by rfl, ?_⟩) ?_ ?_
              rotate_left
              ·intro w'
               go_simp
               with_reducible rfl
              rotate_left
              ·simp only [Act.put, List.setIfInBounds_toArray, List.set_cons_zero, List.set_cons_succ, i64_w, i32_w]
               rfl
              refine pure_ (i := 65) (N := some 79) (v := ?_) (a' := ?_) #[true, true, true, true, true, true, true, true, true, true, true, true, true, true, true, true, true, true, true, true, true, true, true, true, true, true, true, true, true, true, true, true, true, true, true, true, true, true, true, true, true, true, true, true, true, true, true, true, true, true, true, true, true, true, true, true, true, true, true, true, true, true, true, true, true, true, false, false, false, false] rfl rfl (any_of HT_.out (by kernel_rfl)) (fun _ _ _ h => h) (Or.inl ⟨by rfl, ?_⟩) ?_ ?_
              rotate_left
              ·intro w'
               go_simp
               with_reducible rfl
              rotate_left
              ·simp only [Act.put, List.setIfInBounds_toArray, List.set_cons_zero, List.set_cons_succ, i64_w, i32_w]
               rfl
              refine pure_ (i := 66) (N := some 80) (v := ?_) (a' := ?_) #[true, true, true, true, true, true, true, true, true, true, true, true, true, true, true, true, true, true, true, true, true, true, true, true, true, true, true, true, true, true, true, true, true, true, true, true, true, true, true, true, true, true, true, true, true, true, true, true, true, true, true, true, true, true, true, true, true, true, true, true, true, true, true, true, true, true, true, false, false, false] rfl rfl (any_of HT_.out (by kernel_rfl)) (fun _ _ _ h => h) (Or.inl ⟨by rfl, ?_⟩) ?_ ?_
              rotate_left
              ·intro w'
               go_simp
               with_reducible rfl
              rotate_left
              ·simp only [Act.put, List.setIfInBounds_toArray, List.set_cons_zero, List.set_cons_succ, i64_w, i32_w]
               rfl
              refine pure_ (i := 67) (N := some 81) (v := ?_) (a' := ?_) #[true, true, true, true, true, true, true, true, true, true, true, true, true, true, true, true, true, true, true, true, true, true, true, true, true, true, true, true, true, true, true, true, true, true, true, true, true, true, true, true, true, true, true, true, true, true, true, true, true, true, true, true, true, true, true, true, true, true, true, true, true, true, true, true, true, true, true, true, false, false] rfl rfl (any_of HT_.out (by kernel_rfl)) (fun _ _ _ h => h) (Or.inl ⟨by rfl, ?_⟩) ?_ ?_
              rotate_left
              ·intro w'
               go_simp
               with_reducible rfl
              rotate_left
              ·simp only [Act.put, List.setIfInBounds_toArray, List.set_cons_zero, List.set_cons_succ, i64_w, i32_w]
               rfl
              refine pure_ (i := 68) (N := some 82) (v := ?_) (a' := ?_) #[true, true, true, true, true, true, true, true, true, true, true, true, true, true, true, true, true, true, true, true, true, true, true, true, true, true, true, true, true, true, true, true, true, true, true, true, true, true, true, true, true, true, true, true, true, true, true, true, true, true, true, true, true, true, true, true, true, true, true, true, true, true, true, true, true, true, true, true, true, false] rfl rfl (any_of HT_.out (by kernel_rfl)) (fun _ _ _ h => h) (Or.inl ⟨by rfl, ?_⟩) ?_ ?_
              rotate_left
              ·intro w'
               go_simp
               with_reducible rfl
              rotate_left
              ·simp only [Act.put, List.setIfInBounds_toArray, List.set_cons_zero, List.set_cons_succ, i64_w, i32_w]
               rfl
              refine pure_ (i := 69) (N := some 0) (v := ?_) (a' := ?_) #[true, true, true, true, true, true, true, true, true, true, true, true, true, true, true, true, true, true, true, true, true, true, true, true, true, true, true, true, true, true, true, true, true, true, true, true, true, true, true, true, true, true, true, true, true, true, true, true, true, true, true, true, true, true, true, true, true, true, true, true, true, true, true, true, true, true, true, true, true, true] rfl rfl (any_of HT_.out (by kernel_rfl)) (fun _ _ _ h => h) (Or.inl ⟨by rfl, ?_⟩) ?_ ?_
              rotate_left
              ·intro w'
               go_simp
               with_reducible rfl
              rotate_left
              ·simp only [Act.put, List.setIfInBounds_toArray, List.set_cons_zero, List.set_cons_succ, i64_w, i32_w]
               rfl
              refine done_ (done_of HT_.out (by kernel_rfl)) ?_
              try go_wp2
              go_ret
              exact ⟨by first | rfl | (simp [errW_none, errW_some] <;> rfl) | (simp [*, errW_none, errW_some] <;> rfl), by repeat (first | (with_reducible first | exact HB.out | apply below_alloc | apply pw_below_drewN | apply below_drew1 | refine below_set ?_ GE177.out) | exact HB.out)⟩
            ·rw [if_neg c38] at H
             have c38b0 : (t165 == 0) = false := beq_eq_false_iff_ne.mpr c38
             have c38b1 : (t165 != 0) = true := bne_iff_ne.mpr c38
             exact absurd H (by simp)
           ·rw [if_neg c37] at H
            have c37b0 : (t221.toList == ([112, 117, 108, 108, 49] : List UInt8)) = false := beq_eq_false_iff_ne.mpr c37
            have c37b1 : (t221.toList != ([112, 117, 108, 108, 49] : List UInt8)) = true := bne_iff_ne.mpr c37
            exact absurd H (by simp)
          ·rw [if_neg c35] at H
           have c35b0 : (t220 == 1) = false := beq_eq_false_iff_ne.mpr c35
           have c35b1 : (t220 != 1) = true := bne_iff_ne.mpr c35
           exact absurd H (by simp)
         ·rw [if_neg c32] at H
          have c32b0 : (t217 == 2) = false := beq_eq_false_iff_ne.mpr c32
          have c32b1 : (t217 != 2) = true := bne_iff_ne.mpr c32
          exact absurd H (by simp)
        ·rw [if_neg c29] at H
         have c29b0 : (t214 == 3) = false := beq_eq_false_iff_ne.mpr c29
         have c29b1 : (t214 != 3) = true := bne_iff_ne.mpr c29
         exact absurd H (by simp)
       ·rw [if_neg c26] at H
        have c26b0 : (t208 == t210 && (t209 == t211)) = false := by simpa using c26
        (try (have c26b1 : decide (t208 = t210 && (t209 == t211)) = false := by simpa using c26))
        (try (have c26b2 : (t208 == t210 && (t209 == t211)) = false := by simpa using c26))
        (try (have c26b3 : ¬ (t208 = t210 && (t209 == t211)) := by simpa using c26))
        clear c26
        exact absurd H (by simp)
      ·rw [if_neg c21] at H
       have c21b0 : (t200 == 1) = false := beq_eq_false_iff_ne.mpr c21
       have c21b1 : (t200 != 1) = true := bne_iff_ne.mpr c21
       exact absurd H (by simp)
     ·rw [if_neg c18] at H
      have c18b0 : (t194 == t196 && (t195 == t197)) = false := by simpa using c18
      (try (have c18b1 : decide (t194 = t196 && (t195 == t197)) = false := by simpa using c18))
      (try (have c18b2 : (t194 == t196 && (t195 == t197)) = false := by simpa using c18))
      (try (have c18b3 : ¬ (t194 = t196 && (t195 == t197)) := by simpa using c18))
      clear c18
      exact absurd H (by simp)
    ·rw [if_neg c14] at H
     have c14b0 : (t188 == 2) = false := beq_eq_false_iff_ne.mpr c14
     have c14b1 : (t188 != 2) = true := bne_iff_ne.mpr c14
     exact absurd H (by simp)
   ·rw [if_neg c12] at H
    have c12b0 : (t175 == t186 && (t176 == t187)) = false := by simpa using c12
    (try (have c12b1 : decide (t175 = t186 && (t176 == t187)) = false := by simpa using c12))
    (try (have c12b2 : (t175 == t186 && (t176 == t187)) = false := by simpa using c12))
    (try (have c12b3 : ¬ (t175 = t186 && (t176 == t187)) := by simpa using c12))
    clear c12
    exact absurd H (by simp)
  ·rw [if_neg c10] at H
   have c10b0 : (t182 == t184 && (t183 == t185)) = false := by simpa using c10
   (try (have c10b1 : decide (t182 = t184 && (t183 == t185)) = false := by simpa using c10))
   (try (have c10b2 : (t182 == t184 && (t183 == t185)) = false := by simpa using c10))
   (try (have c10b3 : ¬ (t182 = t184 && (t183 == t185)) := by simpa using c10))
   clear c10
   exact absurd H (by simp)
 ·rw [if_neg c7] at H
  have c7b0 : (t178 == t180 && (t179 == t181)) = false := by simpa using c7
  (try (have c7b1 : decide (t178 = t180 && (t179 == t181)) = false := by simpa using c7))
  (try (have c7b2 : (t178 == t180 && (t179 == t181)) = false := by simpa using c7))
  (try (have c7b3 : ¬ (t178 = t180 && (t179 == t181)) := by simpa using c7))
  clear c7
  exact absurd H (by simp)

end Go.Proofs.YtcgckodhehnpnaaDoor.F
