/- The seat's functions as contracts tell them: tables, Concat told from without, numbers. -/
import Derived.Test.YtdgbdkfoeaollaaGreatDoorIR
import Derived.Test.YtdgbdkfoeaollaaGreatDoorALe
import Derived.KernelRfl
namespace Go.Proofs.YtdgbdkfoeaollaaGreatDoor.V
open Go Go.AL Go.SX
def andsL : List Int := [0, 0, 0, 0, 0, 1, 2, 2, 0, 2, 2, 2, 0, 2, 2, 2]
def orsL : List Int := [0, 1, 2, 2, 1, 1, 1, 1, 2, 1, 2, 2, 2, 1, 2, 2]
def xorsL : List Int := [0, 1, 2, 2, 1, 0, 2, 2, 2, 2, 2, 2, 2, 2, 2, 2]
def notsL : List Int := [1, 0, 2, 2]
def TB : List (List Int) := [orsL, notsL, andsL, xorsL]
/-- Concat, with so much fuel. -/
def catN (N : Nat) : List Value → AH → Option (Value × AH) := catEv (evF IR.ft noExt N) N N 165 IR.back IR.cat
/-- What the kernel runs awake with. -/
def extK : Nat → Option (List Value → AH → Option (Value × AH)) := fun f => if f = 24 then some (catN 200) else none
noncomputable def extV (k : Nat) : Option (List Value → AH → Option (Value × AH)) := if k = 24 then some (anyN catN) else if k = 11 then some (closedE IR.ft extK 4 1000 11) else none
noncomputable abbrev CX : Ctx := ⟨IR.ft, extV⟩
theorem catN_sim (N : Nat) : SimG Tryz.prog 24 (catN N) := catEv_simG IR.mixed (evF_sim IR.mixed IR.ft_ok (fun f g hg => by cases hg) N) IR.back_ok IR.cat_ok
theorem extK_sim : ∀ f g, extK f = some g → SimG Tryz.prog f g := by
  intro f g hg
  unfold extK at hg
  split at hg
  · rename_i hf
    subst hf
    obtain rfl := Option.some.inj hg
    exact catN_sim 200
  · cases hg
theorem four : Tryz.prog.globals.size = 4 := by kernel_rfl
theorem extV_sim : ∀ f g, extV f = some g → SimG Tryz.prog f g := by
  intro f g hg
  unfold extV at hg
  split at hg
  · rename_i hf
    subst hf
    obtain rfl := Option.some.inj hg
    exact anyN_sim catN_sim
  · split at hg
    · rename_i hf
      subst hf
      obtain rfl := Option.some.inj hg
      have := closedE_sim IR.mixed extK_sim IR.ft_ok 1000 11
      rw [four] at this
      exact this
    · cases hg
theorem fwi {x : Int} (h : -(2 ^ 62) ≤ x ∧ x < 2 ^ 62) : fwrap .i64 x = x := by
  rw [fwrap_eq]
  unfold IntKind.wrap
  simp only [show IntKind.bits .i64 = 64 from rfl, show IntKind.signed .i64 = true from rfl, Bool.true_and, decide_eq_true_eq, Nat.reduceSub]
  split <;> omega
theorem inc {B : AH} {D : Bs} {G : Sg} (hG : G = std CX TB B D) {j : Int} {n : Nat} (hj : j = (n : Int)) (hn : n < 2 ^ 40) : G.ar .add .i64 j (Int.ofNat 1) = ((n + 1 : Nat) : Int) := by
  subst hG hj
  show fwrap .i64 ((n : Int) + 1) = _
  rw [fwi (by omega)]; rfl
theorem mu {j j' : Int} {n N : Nat} (hj : j = (n : Int)) (hj' : j' = ((n + 1 : Nat) : Int)) (h : n < N) : N - j'.toNat < N - j.toNat := by
  subst hj hj'
  rw [Int.toNat_natCast, Int.toNat_natCast]; omega
theorem addi {B : AH} {D : Bs} {G : Sg} (hG : G = std CX TB B D) {a b : Int} (h : -(2 ^ 62) ≤ a + b ∧ a + b < 2 ^ 62) : G.ar .add .i64 a b = a + b := by
  subst hG; exact fwi h
theorem subi {B : AH} {D : Bs} {G : Sg} (hG : G = std CX TB B D) {a b : Int} (h : -(2 ^ 62) ≤ a - b ∧ a - b < 2 ^ 62) : G.ar .sub .i64 a b = a - b := by
  subst hG; exact fwi h
end Go.Proofs.YtdgbdkfoeaollaaGreatDoor.V
