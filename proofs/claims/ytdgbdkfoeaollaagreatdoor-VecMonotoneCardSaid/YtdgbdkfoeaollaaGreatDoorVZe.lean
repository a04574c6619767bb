/- The reference's Fill; the operators' tables; a loop's state cut down. -/
import Derived.Test.YtdgbdkfoeaollaaGreatDoorVZd
import Derived.Test.YtdgbdkfoeaollaaGreatDoorALe
set_option linter.unusedSimpArgs false
set_option linter.unusedVariables false
set_option maxRecDepth 100000
namespace Go.Proofs.YtdgbdkfoeaollaaGreatDoor.V
open Go Go.AL Go.SX
theorem lp_le {B : AH} {d : Nat → Prop} {G : Sg} {b : IC} {s s' : SX.St} {k : Ctl → SX.St → Prop} (hG : G = std CX TB B ⟨d, fun _ => none⟩) (hl : Le s s') (h : G.lp b s' k) : G.lp b s k := by
  subst hG
  exact fun m E H hs => h _ E H (hs.le hl)
def twosL : List SV := [.n .u8 37, .f 82 [] [], .n .u8 38, .f 31 [] [], .n .u8 39, .f 83 [] [], .n .u8 40, .f 84 [] [], .n .u8 21, .f 30 [] [], .n .u8 22, .f 80 [] [], .n .u8 23, .f 81 [] [], .n .u8 24, .f 32 [] [], .n .u8 25, .f 34 [] [], .n .u8 26, .f 35 [] [], .n .u8 27, .f 85 [] [], .n .u8 28, .f 54 [] [], .n .u8 31, .f 50 [] [], .n .u8 32, .f 52 [] [], .n .u8 33, .f 53 [] [], .n .u8 34, .f 51 [] [], .n .u8 35, .f 47 [] [], .n .u8 36, .f 48 [] [], .n .u8 41, .f 36 [] [], .n .u8 42, .f 37 [] [], .n .u8 43, .f 39 [] [], .n .u8 44, .f 38 [] [], .n .u8 29, .f 55 [] [], .n .u8 30, .f 56 [] []]
theorem twos_ok : FvC CX TB (.f 15 [] []) [] [] (fun r ro => r = .os 0 0 24 2 ∧ ro = [.x twosL]) := by
  refine fn_ok rfl rfl fun B D G hG q hq => ?_
  cbv
  exact hq _ _ ⟨rfl, rfl⟩
theorem kn_X {l m : List Int} {s t : Bool} (bl : Byt l) (bm : Byt m) : kn (bX l s m t) = kn (nB l) ∧ kn (bY l s m t) = kn (nB m) := by
  have h1 := nB_nv bl
  have h2 := nB_nv bm
  exact ⟨rsz_kn h1 (Nat.le_max_left _ _), rsz_kn h2 (Nat.le_max_right _ _)⟩
theorem arL_unk {F : List Bool → List Bool → Bool → List Bool} {O : List Bool → List Bool → Bool → Bool} {l m : List Int} {s t : Bool} (bl : Byt l) (bm : Byt m) (h : (kn (nB l) && kn (nB m)) = false) : arL F O l s m t = List.replicate (bwd l m) 2 := by
  unfold arL
  rw [(kn_X bl bm).1, (kn_X bl bm).2, h]
  rfl
theorem cpB_unk {is : Int → Bool} {l m : List Int} {s t : Bool} (bl : Byt l) (bm : Byt m) (h : (kn (nB l) && kn (nB m)) = false) : cpB is l s m t = 2 := by
  unfold cpB
  rw [(kn_X bl bm).1, (kn_X bl bm).2, h]
  rfl
theorem powL_unk {l m : List Int} {s t : Bool} (h : (kn (nB l) && kn (nB m)) = false) : powL l s m t = List.replicate (nB l).length 2 := by
  unfold powL
  rw [h]
  rfl
theorem shL_unk {dir : Int} {fr : List Int → Bool → Int} {l m : List Int} {s : Bool} (h : kn (nB m) = false) : shL dir fr l s m = List.replicate (nB l).length 2 := by
  unfold shL
  rw [h]
  rfl
theorem nv_rep {n : Nat} {x : Int} (h1 : 1 ≤ n) (h2 : n ≤ 128) (h : V4 x) : NV (List.replicate n x) :=
  ⟨by intro e; have := congrArg List.length e; rw [List.length_replicate] at this; simp at this; omega, by rw [List.length_replicate]; exact h2, fun y hy => by rw [(List.mem_replicate.1 hy).2]; exact h⟩
end Go.Proofs.YtdgbdkfoeaollaaGreatDoor.V
