-- Written by a program of this session (wip/tools/drive.py) over the kit's print.py.
import Derived.Test.YtcgckodhehnpnaaDoorF0
namespace Go.Proofs.YtcgckodhehnpnaaDoor.F
open Go.RowKit Go.Proofs.YtcgckodhehnpnaaDoorW.PrintWords Go.Proofs.YtcgckodhehnpnaaDoorW.PrintLast Go.Proofs.YtcgckodhehnpnaaDoorW.PrintMore
attribute [local go_sem] max2_int min2_int max_two min_two max_three min_three max_four min_four   -- for this text's walks alone
set_option linter.unusedVariables false
set_option linter.unusedSimpArgs false

/-! ### strength_Parse: function 18 -/
-- by hand
def strength_Parse.l0 (word : ByteArray) (d : Int) : Nat → Int → Option (Int × Bool × Bool)
 | 0, _ => none
 | k + 1, i => if i < 8 then (if (rdOf ByteArray.empty namesL i).toList = word.toList ∧ (d = 48 ∨ d = 49) then some (i, d == 49, true) else strength_Parse.l0 word d k (i + 1)) else some (0, false, false)
def strength_Parse.f (a0 : ByteArray) : Option (Int × Bool × Bool) := if a0.size = 0 then some (0, false, false) else if a0.size ≤ 9223372036854775807 then strength_Parse.l0 (a0.extract 0 (a0.size - 1)) (bt a0 ((a0.size : Int) - 1)) 9 0 else none
set_option maxHeartbeats 8000000 in
set_option maxRecDepth 100000 in
theorem strength_Parse.calls (a0 : ByteArray) (r1 : Int) (r2 : Bool) (r3 : Bool) (w : World) (hG : Glob w) (h : strength_Parse.f a0 = some (r1, r2, r3)) :
  Calls Tryd.prog 18 #[.string a0] w fun e w' => e = .returned (.tuple #[.int .u8 r1, .bool r2, .bool r3]) ∧ Drawn0 w w' := by
 by_cases hz : a0.size = 0
 ·unfold strength_Parse.f at h
  rw [if_pos hz] at h
  simp only [Option.some.injEq, Prod.mk.injEq] at h
  obtain ⟨rfl, rfl, rfl⟩ := h
  obtain rfl : a0 = ⟨#[]⟩ := by
   cases a0 with | mk d => exact congrArg ByteArray.mk (Array.eq_empty_of_size_eq_zero hz)
  clear hz hG
  go_enter Tryd.func18, Tryd.ntmps18
  go_wp2
  go_ret3
  exact ⟨by first | rfl | (simp; done) | (simp [*]; done), by repeat (first | exact Drawn0.refl _ | apply Drawn0.step)⟩
 ·unfold strength_Parse.f at h
  rw [if_neg hz] at h
  by_cases hsz : a0.size ≤ 9223372036854775807
  ·rw [if_pos hsz] at h
   have hb : ∀ h : a0.size - 1 < a0.size, ((a0[a0.size - 1]'h).toNat : Int) = bt a0 ((a0.size : Int) - 1) := fun h => by
    have e : ((a0.size : Int) - 1).toNat = a0.size - 1 := by omega
    unfold bt
    simp only [e, h, dite_true]
   have hp : 1 ≤ a0.size := by omega
   have hem : a0.toList.isEmpty = false := by
    rw [ByteArray.toList_eq]; cases hl : a0.data.toList with
    | nil => exact absurd (show a0.data.size = 0 by rw [← Array.length_toList, hl]; rfl) hz
    | cons x l => rfl
   generalize hd : bt a0 ((a0.size : Int) - 1) = d at h hb
   clear hd hz
   have c0 : ∀ n, (w.drewN n).cell? ⟨0, 0, none⟩ = some (.string ⟨#[104, 105, 103, 104, 122]⟩) := fun n => (hG.drewN n).names 0 (by decide)
   have c1 : ∀ n, (w.drewN n).cell? ⟨0, 1, none⟩ = some (.string ⟨#[115, 109, 97, 108, 108]⟩) := fun n => (hG.drewN n).names 1 (by decide)
   have c2 : ∀ n, (w.drewN n).cell? ⟨0, 2, none⟩ = some (.string ⟨#[109, 101, 100, 105, 117, 109]⟩) := fun n => (hG.drewN n).names 2 (by decide)
   have c3 : ∀ n, (w.drewN n).cell? ⟨0, 3, none⟩ = some (.string ⟨#[119, 101, 97, 107]⟩) := fun n => (hG.drewN n).names 3 (by decide)
   have c4 : ∀ n, (w.drewN n).cell? ⟨0, 4, none⟩ = some (.string ⟨#[108, 97, 114, 103, 101]⟩) := fun n => (hG.drewN n).names 4 (by decide)
   have c5 : ∀ n, (w.drewN n).cell? ⟨0, 5, none⟩ = some (.string ⟨#[112, 117, 108, 108]⟩) := fun n => (hG.drewN n).names 5 (by decide)
   have c6 : ∀ n, (w.drewN n).cell? ⟨0, 6, none⟩ = some (.string ⟨#[115, 116, 114, 111, 110, 103]⟩) := fun n => (hG.drewN n).names 6 (by decide)
   have c7 : ∀ n, (w.drewN n).cell? ⟨0, 7, none⟩ = some (.string ⟨#[115, 117, 112, 112, 108, 121]⟩) := fun n => (hG.drewN n).names 7 (by decide)
   have x0 : ∀ w : World, (Instr.index 61 (.agg #[.string ⟨#[104, 105, 103, 104, 122]⟩, .string ⟨#[115, 109, 97, 108, 108]⟩, .string ⟨#[109, 101, 100, 105, 117, 109]⟩, .string ⟨#[119, 101, 97, 107]⟩, .string ⟨#[108, 97, 114, 103, 101]⟩, .string ⟨#[112, 117, 108, 108]⟩, .string ⟨#[115, 116, 114, 111, 110, 103]⟩, .string ⟨#[115, 117, 112, 112, 108, 121]⟩]) (.int .i64 0)).run Tryd.prog w = .ok (.string ⟨#[104, 105, 103, 104, 122]⟩) w := fun _ => by kernel_rfl
   have x1 : ∀ w : World, (Instr.index 61 (.agg #[.string ⟨#[104, 105, 103, 104, 122]⟩, .string ⟨#[115, 109, 97, 108, 108]⟩, .string ⟨#[109, 101, 100, 105, 117, 109]⟩, .string ⟨#[119, 101, 97, 107]⟩, .string ⟨#[108, 97, 114, 103, 101]⟩, .string ⟨#[112, 117, 108, 108]⟩, .string ⟨#[115, 116, 114, 111, 110, 103]⟩, .string ⟨#[115, 117, 112, 112, 108, 121]⟩]) (.int .i64 1)).run Tryd.prog w = .ok (.string ⟨#[115, 109, 97, 108, 108]⟩) w := fun _ => by kernel_rfl
   have x2 : ∀ w : World, (Instr.index 61 (.agg #[.string ⟨#[104, 105, 103, 104, 122]⟩, .string ⟨#[115, 109, 97, 108, 108]⟩, .string ⟨#[109, 101, 100, 105, 117, 109]⟩, .string ⟨#[119, 101, 97, 107]⟩, .string ⟨#[108, 97, 114, 103, 101]⟩, .string ⟨#[112, 117, 108, 108]⟩, .string ⟨#[115, 116, 114, 111, 110, 103]⟩, .string ⟨#[115, 117, 112, 112, 108, 121]⟩]) (.int .i64 2)).run Tryd.prog w = .ok (.string ⟨#[109, 101, 100, 105, 117, 109]⟩) w := fun _ => by kernel_rfl
   have x3 : ∀ w : World, (Instr.index 61 (.agg #[.string ⟨#[104, 105, 103, 104, 122]⟩, .string ⟨#[115, 109, 97, 108, 108]⟩, .string ⟨#[109, 101, 100, 105, 117, 109]⟩, .string ⟨#[119, 101, 97, 107]⟩, .string ⟨#[108, 97, 114, 103, 101]⟩, .string ⟨#[112, 117, 108, 108]⟩, .string ⟨#[115, 116, 114, 111, 110, 103]⟩, .string ⟨#[115, 117, 112, 112, 108, 121]⟩]) (.int .i64 3)).run Tryd.prog w = .ok (.string ⟨#[119, 101, 97, 107]⟩) w := fun _ => by kernel_rfl
   have x4 : ∀ w : World, (Instr.index 61 (.agg #[.string ⟨#[104, 105, 103, 104, 122]⟩, .string ⟨#[115, 109, 97, 108, 108]⟩, .string ⟨#[109, 101, 100, 105, 117, 109]⟩, .string ⟨#[119, 101, 97, 107]⟩, .string ⟨#[108, 97, 114, 103, 101]⟩, .string ⟨#[112, 117, 108, 108]⟩, .string ⟨#[115, 116, 114, 111, 110, 103]⟩, .string ⟨#[115, 117, 112, 112, 108, 121]⟩]) (.int .i64 4)).run Tryd.prog w = .ok (.string ⟨#[108, 97, 114, 103, 101]⟩) w := fun _ => by kernel_rfl
   have x5 : ∀ w : World, (Instr.index 61 (.agg #[.string ⟨#[104, 105, 103, 104, 122]⟩, .string ⟨#[115, 109, 97, 108, 108]⟩, .string ⟨#[109, 101, 100, 105, 117, 109]⟩, .string ⟨#[119, 101, 97, 107]⟩, .string ⟨#[108, 97, 114, 103, 101]⟩, .string ⟨#[112, 117, 108, 108]⟩, .string ⟨#[115, 116, 114, 111, 110, 103]⟩, .string ⟨#[115, 117, 112, 112, 108, 121]⟩]) (.int .i64 5)).run Tryd.prog w = .ok (.string ⟨#[112, 117, 108, 108]⟩) w := fun _ => by kernel_rfl
   have x6 : ∀ w : World, (Instr.index 61 (.agg #[.string ⟨#[104, 105, 103, 104, 122]⟩, .string ⟨#[115, 109, 97, 108, 108]⟩, .string ⟨#[109, 101, 100, 105, 117, 109]⟩, .string ⟨#[119, 101, 97, 107]⟩, .string ⟨#[108, 97, 114, 103, 101]⟩, .string ⟨#[112, 117, 108, 108]⟩, .string ⟨#[115, 116, 114, 111, 110, 103]⟩, .string ⟨#[115, 117, 112, 112, 108, 121]⟩]) (.int .i64 6)).run Tryd.prog w = .ok (.string ⟨#[115, 116, 114, 111, 110, 103]⟩) w := fun _ => by kernel_rfl
   have x7 : ∀ w : World, (Instr.index 61 (.agg #[.string ⟨#[104, 105, 103, 104, 122]⟩, .string ⟨#[115, 109, 97, 108, 108]⟩, .string ⟨#[109, 101, 100, 105, 117, 109]⟩, .string ⟨#[119, 101, 97, 107]⟩, .string ⟨#[108, 97, 114, 103, 101]⟩, .string ⟨#[112, 117, 108, 108]⟩, .string ⟨#[115, 116, 114, 111, 110, 103]⟩, .string ⟨#[115, 117, 112, 112, 108, 121]⟩]) (.int .i64 7)).run Tryd.prog w = .ok (.string ⟨#[115, 117, 112, 112, 108, 121]⟩) w := fun _ => by kernel_rfl
   have HG := Aside0.mk hG
   clear hG
   have HA := Aside0.mk h
   clear h
   go_enter Tryd.func18, Tryd.ntmps18
   go_wp2
   go_quiet (fail)
   go_wp2
   generalize a0.extract 0 (a0.size - 1) = word at HA ⊢
   go_loop [22] (fun v => ∃ k : Nat, k ≤ 8 ∧ v = .int .i64 k ∧ Aside0 (strength_Parse.l0 word d (9 - k) k = some (r1, r2, r3))) (fun v => 8 - (intOf v).toNat)
   case atStart => exact ⟨0, Nat.zero_le _, rfl, HA⟩
   case round =>
    clear HA
    obtain ⟨k, hk, rfl, HA⟩ := hrel
    rcases (show k = 0 ∨ k = 1 ∨ k = 2 ∨ k = 3 ∨ k = 4 ∨ k = 5 ∨ k = 6 ∨ k = 7 ∨ k = 8 from by omega) with rfl | rfl | rfl | rfl | rfl | rfl | rfl | rfl | rfl
    ·have H : (if ([104, 105, 103, 104, 122] : List UInt8) = word.toList ∧ (d = 48 ∨ d = 49) then some ((0 : Int), d == 49, true) else strength_Parse.l0 word d 8 (0 + 1)) = some (r1, r2, r3) := by
      have h := HA.out
      rw [show 9 - 0 = 8 + 1 from rfl, strength_Parse.l0, if_pos (by decide)] at h
      rw [show (rdOf ByteArray.empty namesL ((0 : Nat) : Int)).toList = ([104, 105, 103, 104, 122] : List UInt8) from by rw [ByteArray.toList_eq]; rfl] at h
      exact h
     clear HA
     by_cases e : ([104, 105, 103, 104, 122] : List UInt8) = word.toList
     ·have e1 : (([104, 105, 103, 104, 122] : List UInt8) == word.toList) = true := beq_iff_eq.2 e
      by_cases d0 : d = 48
      ·subst d0
       rw [if_pos ⟨e, .inl rfl⟩] at H
       simp only [Option.some.injEq, Prod.mk.injEq] at H
       obtain ⟨rfl, rfl, rfl⟩ := H
       clear e
       go_wp2
       go_ret3
       exact ⟨by first | rfl | (simp; done) | (simp [*]; done), by repeat (first | exact Drawn0.refl _ | apply Drawn0.step)⟩
      ·have d0b : (d == 48) = false := beq_eq_false_iff_ne.2 d0
       by_cases d1 : d = 49
       ·subst d1
        rw [if_pos ⟨e, .inr rfl⟩] at H
        simp only [Option.some.injEq, Prod.mk.injEq] at H
        obtain ⟨rfl, rfl, rfl⟩ := H
        clear e
        go_wp2
        go_ret3
        exact ⟨by first | rfl | (simp; done) | (simp [*]; done), by repeat (first | exact Drawn0.refl _ | apply Drawn0.step)⟩
       ·have d1b : (d == 49) = false := beq_eq_false_iff_ne.2 d1
        rw [if_neg (by rintro ⟨_, h | h⟩ <;> contradiction)] at H
        have HA := Aside0.mk H
        clear H e d0 d1
        go_wp2
        go_round
        case rel => exact ⟨0 + 1, by omega, by go_num, HA⟩
        case measure => simp [intOf]
     ·have e1 : (([104, 105, 103, 104, 122] : List UInt8) == word.toList) = false := beq_eq_false_iff_ne.2 e
      rw [if_neg (fun h => e h.1)] at H
      have HA := Aside0.mk H
      clear H e
      go_wp2
      go_round
      case rel => exact ⟨0 + 1, by omega, by go_num, HA⟩
      case measure => simp [intOf]
    ·have H : (if ([115, 109, 97, 108, 108] : List UInt8) = word.toList ∧ (d = 48 ∨ d = 49) then some ((1 : Int), d == 49, true) else strength_Parse.l0 word d 7 (1 + 1)) = some (r1, r2, r3) := by
      have h := HA.out
      rw [show 9 - 1 = 7 + 1 from rfl, strength_Parse.l0, if_pos (by decide)] at h
      rw [show (rdOf ByteArray.empty namesL ((1 : Nat) : Int)).toList = ([115, 109, 97, 108, 108] : List UInt8) from by rw [ByteArray.toList_eq]; rfl] at h
      exact h
     clear HA
     by_cases e : ([115, 109, 97, 108, 108] : List UInt8) = word.toList
     ·have e1 : (([115, 109, 97, 108, 108] : List UInt8) == word.toList) = true := beq_iff_eq.2 e
      by_cases d0 : d = 48
      ·subst d0
       rw [if_pos ⟨e, .inl rfl⟩] at H
       simp only [Option.some.injEq, Prod.mk.injEq] at H
       obtain ⟨rfl, rfl, rfl⟩ := H
       clear e
       go_wp2
       go_ret3
       exact ⟨by first | rfl | (simp; done) | (simp [*]; done), by repeat (first | exact Drawn0.refl _ | apply Drawn0.step)⟩
      ·have d0b : (d == 48) = false := beq_eq_false_iff_ne.2 d0
       by_cases d1 : d = 49
       ·subst d1
        rw [if_pos ⟨e, .inr rfl⟩] at H
        simp only [Option.some.injEq, Prod.mk.injEq] at H
        obtain ⟨rfl, rfl, rfl⟩ := H
        clear e
        go_wp2
        go_ret3
        exact ⟨by first | rfl | (simp; done) | (simp [*]; done), by repeat (first | exact Drawn0.refl _ | apply Drawn0.step)⟩
       ·have d1b : (d == 49) = false := beq_eq_false_iff_ne.2 d1
        rw [if_neg (by rintro ⟨_, h | h⟩ <;> contradiction)] at H
        have HA := Aside0.mk H
        clear H e d0 d1
        go_wp2
        go_round
        case rel => exact ⟨1 + 1, by omega, by go_num, HA⟩
        case measure => simp [intOf]
     ·have e1 : (([115, 109, 97, 108, 108] : List UInt8) == word.toList) = false := beq_eq_false_iff_ne.2 e
      rw [if_neg (fun h => e h.1)] at H
      have HA := Aside0.mk H
      clear H e
      go_wp2
      go_round
      case rel => exact ⟨1 + 1, by omega, by go_num, HA⟩
      case measure => simp [intOf]
    ·have H : (if ([109, 101, 100, 105, 117, 109] : List UInt8) = word.toList ∧ (d = 48 ∨ d = 49) then some ((2 : Int), d == 49, true) else strength_Parse.l0 word d 6 (2 + 1)) = some (r1, r2, r3) := by
      have h := HA.out
      rw [show 9 - 2 = 6 + 1 from rfl, strength_Parse.l0, if_pos (by decide)] at h
      rw [show (rdOf ByteArray.empty namesL ((2 : Nat) : Int)).toList = ([109, 101, 100, 105, 117, 109] : List UInt8) from by rw [ByteArray.toList_eq]; rfl] at h
      exact h
     clear HA
     by_cases e : ([109, 101, 100, 105, 117, 109] : List UInt8) = word.toList
     ·have e1 : (([109, 101, 100, 105, 117, 109] : List UInt8) == word.toList) = true := beq_iff_eq.2 e
      by_cases d0 : d = 48
      ·subst d0
       rw [if_pos ⟨e, .inl rfl⟩] at H
       simp only [Option.some.injEq, Prod.mk.injEq] at H
       obtain ⟨rfl, rfl, rfl⟩ := H
       clear e
       go_wp2
       go_ret3
       exact ⟨by first | rfl | (simp; done) | (simp [*]; done), by repeat (first | exact Drawn0.refl _ | apply Drawn0.step)⟩
      ·have d0b : (d == 48) = false := beq_eq_false_iff_ne.2 d0
       by_cases d1 : d = 49
       ·subst d1
        rw [if_pos ⟨e, .inr rfl⟩] at H
        simp only [Option.some.injEq, Prod.mk.injEq] at H
        obtain ⟨rfl, rfl, rfl⟩ := H
        clear e
        go_wp2
        go_ret3
        exact ⟨by first | rfl | (simp; done) | (simp [*]; done), by repeat (first | exact Drawn0.refl _ | apply Drawn0.step)⟩
       ·have d1b : (d == 49) = false := beq_eq_false_iff_ne.2 d1
        rw [if_neg (by rintro ⟨_, h | h⟩ <;> contradiction)] at H
        have HA := Aside0.mk H
        clear H e d0 d1
        go_wp2
        go_round
        case rel => exact ⟨2 + 1, by omega, by go_num, HA⟩
        case measure => simp [intOf]
     ·have e1 : (([109, 101, 100, 105, 117, 109] : List UInt8) == word.toList) = false := beq_eq_false_iff_ne.2 e
      rw [if_neg (fun h => e h.1)] at H
      have HA := Aside0.mk H
      clear H e
      go_wp2
      go_round
      case rel => exact ⟨2 + 1, by omega, by go_num, HA⟩
      case measure => simp [intOf]
    ·have H : (if ([119, 101, 97, 107] : List UInt8) = word.toList ∧ (d = 48 ∨ d = 49) then some ((3 : Int), d == 49, true) else strength_Parse.l0 word d 5 (3 + 1)) = some (r1, r2, r3) := by
      have h := HA.out
      rw [show 9 - 3 = 5 + 1 from rfl, strength_Parse.l0, if_pos (by decide)] at h
      rw [show (rdOf ByteArray.empty namesL ((3 : Nat) : Int)).toList = ([119, 101, 97, 107] : List UInt8) from by rw [ByteArray.toList_eq]; rfl] at h
      exact h
     clear HA
     by_cases e : ([119, 101, 97, 107] : List UInt8) = word.toList
     ·have e1 : (([119, 101, 97, 107] : List UInt8) == word.toList) = true := beq_iff_eq.2 e
      by_cases d0 : d = 48
      ·subst d0
       rw [if_pos ⟨e, .inl rfl⟩] at H
       simp only [Option.some.injEq, Prod.mk.injEq] at H
       obtain ⟨rfl, rfl, rfl⟩ := H
       clear e
       go_wp2
       go_ret3
       exact ⟨by first | rfl | (simp; done) | (simp [*]; done), by repeat (first | exact Drawn0.refl _ | apply Drawn0.step)⟩
      ·have d0b : (d == 48) = false := beq_eq_false_iff_ne.2 d0
       by_cases d1 : d = 49
       ·subst d1
        rw [if_pos ⟨e, .inr rfl⟩] at H
        simp only [Option.some.injEq, Prod.mk.injEq] at H
        obtain ⟨rfl, rfl, rfl⟩ := H
        clear e
        go_wp2
        go_ret3
        exact ⟨by first | rfl | (simp; done) | (simp [*]; done), by repeat (first | exact Drawn0.refl _ | apply Drawn0.step)⟩
       ·have d1b : (d == 49) = false := beq_eq_false_iff_ne.2 d1
        rw [if_neg (by rintro ⟨_, h | h⟩ <;> contradiction)] at H
        have HA := Aside0.mk H
        clear H e d0 d1
        go_wp2
        go_round
        case rel => exact ⟨3 + 1, by omega, by go_num, HA⟩
        case measure => simp [intOf]
     ·have e1 : (([119, 101, 97, 107] : List UInt8) == word.toList) = false := beq_eq_false_iff_ne.2 e
      rw [if_neg (fun h => e h.1)] at H
      have HA := Aside0.mk H
      clear H e
      go_wp2
      go_round
      case rel => exact ⟨3 + 1, by omega, by go_num, HA⟩
      case measure => simp [intOf]
    ·have H : (if ([108, 97, 114, 103, 101] : List UInt8) = word.toList ∧ (d = 48 ∨ d = 49) then some ((4 : Int), d == 49, true) else strength_Parse.l0 word d 4 (4 + 1)) = some (r1, r2, r3) := by
      have h := HA.out
      rw [show 9 - 4 = 4 + 1 from rfl, strength_Parse.l0, if_pos (by decide)] at h
      rw [show (rdOf ByteArray.empty namesL ((4 : Nat) : Int)).toList = ([108, 97, 114, 103, 101] : List UInt8) from by rw [ByteArray.toList_eq]; rfl] at h
      exact h
     clear HA
     by_cases e : ([108, 97, 114, 103, 101] : List UInt8) = word.toList
     ·have e1 : (([108, 97, 114, 103, 101] : List UInt8) == word.toList) = true := beq_iff_eq.2 e
      by_cases d0 : d = 48
      ·subst d0
       rw [if_pos ⟨e, .inl rfl⟩] at H
       simp only [Option.some.injEq, Prod.mk.injEq] at H
       obtain ⟨rfl, rfl, rfl⟩ := H
       clear e
       go_wp2
       go_ret3
       exact ⟨by first | rfl | (simp; done) | (simp [*]; done), by repeat (first | exact Drawn0.refl _ | apply Drawn0.step)⟩
      ·have d0b : (d == 48) = false := beq_eq_false_iff_ne.2 d0
       by_cases d1 : d = 49
       ·subst d1
        rw [if_pos ⟨e, .inr rfl⟩] at H
        simp only [Option.some.injEq, Prod.mk.injEq] at H
        obtain ⟨rfl, rfl, rfl⟩ := H
        clear e
        go_wp2
        go_ret3
        exact ⟨by first | rfl | (simp; done) | (simp [*]; done), by repeat (first | exact Drawn0.refl _ | apply Drawn0.step)⟩
       ·have d1b : (d == 49) = false := beq_eq_false_iff_ne.2 d1
        rw [if_neg (by rintro ⟨_, h | h⟩ <;> contradiction)] at H
        have HA := Aside0.mk H
        clear H e d0 d1
        go_wp2
        go_round
        case rel => exact ⟨4 + 1, by omega, by go_num, HA⟩
        case measure => simp [intOf]
     ·have e1 : (([108, 97, 114, 103, 101] : List UInt8) == word.toList) = false := beq_eq_false_iff_ne.2 e
      rw [if_neg (fun h => e h.1)] at H
      have HA := Aside0.mk H
      clear H e
      go_wp2
      go_round
      case rel => exact ⟨4 + 1, by omega, by go_num, HA⟩
      case measure => simp [intOf]
    ·have H : (if ([112, 117, 108, 108] : List UInt8) = word.toList ∧ (d = 48 ∨ d = 49) then some ((5 : Int), d == 49, true) else strength_Parse.l0 word d 3 (5 + 1)) = some (r1, r2, r3) := by
      have h := HA.out
      rw [show 9 - 5 = 3 + 1 from rfl, strength_Parse.l0, if_pos (by decide)] at h
      rw [show (rdOf ByteArray.empty namesL ((5 : Nat) : Int)).toList = ([112, 117, 108, 108] : List UInt8) from by rw [ByteArray.toList_eq]; rfl] at h
      exact h
     clear HA
     by_cases e : ([112, 117, 108, 108] : List UInt8) = word.toList
     ·have e1 : (([112, 117, 108, 108] : List UInt8) == word.toList) = true := beq_iff_eq.2 e
      by_cases d0 : d = 48
      ·subst d0
       rw [if_pos ⟨e, .inl rfl⟩] at H
       simp only [Option.some.injEq, Prod.mk.injEq] at H
       obtain ⟨rfl, rfl, rfl⟩ := H
       clear e
       go_wp2
       go_ret3
       exact ⟨by first | rfl | (simp; done) | (simp [*]; done), by repeat (first | exact Drawn0.refl _ | apply Drawn0.step)⟩
      ·have d0b : (d == 48) = false := beq_eq_false_iff_ne.2 d0
       by_cases d1 : d = 49
       ·subst d1
        rw [if_pos ⟨e, .inr rfl⟩] at H
        simp only [Option.some.injEq, Prod.mk.injEq] at H
        obtain ⟨rfl, rfl, rfl⟩ := H
        clear e
        go_wp2
        go_ret3
        exact ⟨by first | rfl | (simp; done) | (simp [*]; done), by repeat (first | exact Drawn0.refl _ | apply Drawn0.step)⟩
       ·have d1b : (d == 49) = false := beq_eq_false_iff_ne.2 d1
        rw [if_neg (by rintro ⟨_, h | h⟩ <;> contradiction)] at H
        have HA := Aside0.mk H
        clear H e d0 d1
        go_wp2
        go_round
        case rel => exact ⟨5 + 1, by omega, by go_num, HA⟩
        case measure => simp [intOf]
     ·have e1 : (([112, 117, 108, 108] : List UInt8) == word.toList) = false := beq_eq_false_iff_ne.2 e
      rw [if_neg (fun h => e h.1)] at H
      have HA := Aside0.mk H
      clear H e
      go_wp2
      go_round
      case rel => exact ⟨5 + 1, by omega, by go_num, HA⟩
      case measure => simp [intOf]
    ·have H : (if ([115, 116, 114, 111, 110, 103] : List UInt8) = word.toList ∧ (d = 48 ∨ d = 49) then some ((6 : Int), d == 49, true) else strength_Parse.l0 word d 2 (6 + 1)) = some (r1, r2, r3) := by
      have h := HA.out
      rw [show 9 - 6 = 2 + 1 from rfl, strength_Parse.l0, if_pos (by decide)] at h
      rw [show (rdOf ByteArray.empty namesL ((6 : Nat) : Int)).toList = ([115, 116, 114, 111, 110, 103] : List UInt8) from by rw [ByteArray.toList_eq]; rfl] at h
      exact h
     clear HA
     by_cases e : ([115, 116, 114, 111, 110, 103] : List UInt8) = word.toList
     ·have e1 : (([115, 116, 114, 111, 110, 103] : List UInt8) == word.toList) = true := beq_iff_eq.2 e
      by_cases d0 : d = 48
      ·subst d0
       rw [if_pos ⟨e, .inl rfl⟩] at H
       simp only [Option.some.injEq, Prod.mk.injEq] at H
       obtain ⟨rfl, rfl, rfl⟩ := H
       clear e
       go_wp2
       go_ret3
       exact ⟨by first | rfl | (simp; done) | (simp [*]; done), by repeat (first | exact Drawn0.refl _ | apply Drawn0.step)⟩
      ·have d0b : (d == 48) = false := beq_eq_false_iff_ne.2 d0
       by_cases d1 : d = 49
       ·subst d1
        rw [if_pos ⟨e, .inr rfl⟩] at H
        simp only [Option.some.injEq, Prod.mk.injEq] at H
        obtain ⟨rfl, rfl, rfl⟩ := H
        clear e
        go_wp2
        go_ret3
        exact ⟨by first | rfl | (simp; done) | (simp [*]; done), by repeat (first | exact Drawn0.refl _ | apply Drawn0.step)⟩
       ·have d1b : (d == 49) = false := beq_eq_false_iff_ne.2 d1
        rw [if_neg (by rintro ⟨_, h | h⟩ <;> contradiction)] at H
        have HA := Aside0.mk H
        clear H e d0 d1
        go_wp2
        go_round
        case rel => exact ⟨6 + 1, by omega, by go_num, HA⟩
        case measure => simp [intOf]
     ·have e1 : (([115, 116, 114, 111, 110, 103] : List UInt8) == word.toList) = false := beq_eq_false_iff_ne.2 e
      rw [if_neg (fun h => e h.1)] at H
      have HA := Aside0.mk H
      clear H e
      go_wp2
      go_round
      case rel => exact ⟨6 + 1, by omega, by go_num, HA⟩
      case measure => simp [intOf]
    ·have H : (if ([115, 117, 112, 112, 108, 121] : List UInt8) = word.toList ∧ (d = 48 ∨ d = 49) then some ((7 : Int), d == 49, true) else strength_Parse.l0 word d 1 (7 + 1)) = some (r1, r2, r3) := by
      have h := HA.out
      rw [show 9 - 7 = 1 + 1 from rfl, strength_Parse.l0, if_pos (by decide)] at h
      rw [show (rdOf ByteArray.empty namesL ((7 : Nat) : Int)).toList = ([115, 117, 112, 112, 108, 121] : List UInt8) from by rw [ByteArray.toList_eq]; rfl] at h
      exact h
     clear HA
     by_cases e : ([115, 117, 112, 112, 108, 121] : List UInt8) = word.toList
     ·have e1 : (([115, 117, 112, 112, 108, 121] : List UInt8) == word.toList) = true := beq_iff_eq.2 e
      by_cases d0 : d = 48
      ·subst d0
       rw [if_pos ⟨e, .inl rfl⟩] at H
       simp only [Option.some.injEq, Prod.mk.injEq] at H
       obtain ⟨rfl, rfl, rfl⟩ := H
       clear e
       go_wp2
       go_ret3
       exact ⟨by first | rfl | (simp; done) | (simp [*]; done), by repeat (first | exact Drawn0.refl _ | apply Drawn0.step)⟩
      ·have d0b : (d == 48) = false := beq_eq_false_iff_ne.2 d0
       by_cases d1 : d = 49
       ·subst d1
        rw [if_pos ⟨e, .inr rfl⟩] at H
        simp only [Option.some.injEq, Prod.mk.injEq] at H
        obtain ⟨rfl, rfl, rfl⟩ := H
        clear e
        go_wp2
        go_ret3
        exact ⟨by first | rfl | (simp; done) | (simp [*]; done), by repeat (first | exact Drawn0.refl _ | apply Drawn0.step)⟩
       ·have d1b : (d == 49) = false := beq_eq_false_iff_ne.2 d1
        rw [if_neg (by rintro ⟨_, h | h⟩ <;> contradiction)] at H
        have HA := Aside0.mk H
        clear H e d0 d1
        go_wp2
        go_round
        case rel => exact ⟨7 + 1, by omega, by go_num, HA⟩
        case measure => simp [intOf]
     ·have e1 : (([115, 117, 112, 112, 108, 121] : List UInt8) == word.toList) = false := beq_eq_false_iff_ne.2 e
      rw [if_neg (fun h => e h.1)] at H
      have HA := Aside0.mk H
      clear H e
      go_wp2
      go_round
      case rel => exact ⟨7 + 1, by omega, by go_num, HA⟩
      case measure => simp [intOf]
    ·have H : some ((0 : Int), false, false) = some (r1, r2, r3) := by
      have h := HA.out
      rw [show 9 - 8 = 0 + 1 from rfl, strength_Parse.l0, if_neg (by decide)] at h
      exact h
     clear HA
     simp only [Option.some.injEq, Prod.mk.injEq] at H
     obtain ⟨rfl, rfl, rfl⟩ := H
     go_wp2
     go_ret3
     exact ⟨by first | rfl | (simp; done) | (simp [*]; done), by repeat (first | exact Drawn0.refl _ | apply Drawn0.step)⟩
  ·rw [if_neg hsz] at h
   exact absurd h (by simp)


end Go.Proofs.YtcgckodhehnpnaaDoor.F
