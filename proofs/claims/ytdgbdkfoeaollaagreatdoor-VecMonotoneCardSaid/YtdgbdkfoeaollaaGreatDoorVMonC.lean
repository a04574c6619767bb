/- VecMonotone: the operators with one operand (printed by VMon.py). -/
import Derived.Test.YtdgbdkfoeaollaaGreatDoorVMonB
import Derived.Test.YtdgbdkfoeaollaaGreatDoorVMc
import Derived.Test.YtdgbdkfoeaollaaGreatDoorVU
import Derived.Test.YtdgbdkfoeaollaaGreatDoorVW
import Derived.Test.YtdgbdkfoeaollaaGreatDoorALe
set_option linter.unusedSimpArgs false
set_option linter.unusedVariables false
set_option cbv.maxSteps 4000000
set_option maxRecDepth 100000
set_option maxHeartbeats 4000000
namespace Go.Proofs.YtdgbdkfoeaollaaGreatDoor.V
open Go Go.AL Go.SX
theorem monO {B : AH} {d : Nat → Prop} (e a b e' a' b' : List Int) (r s t : Bool) (nE : NV e) (nE' : NV e') (rE : Rf e e') (nA : NV a) (nC : NV a') (rA : Rf a a') (nB' : NV b) (nD : NV b') (rB : Rf b b') (q : SV → List SX.Obj → Prop) (hq : ∀ x, x = true → q (.b x) []) : SWs CX TB B ⟨d, fun _ => none⟩ (dropC 3 IR.fi3.code) (stM e a b e' a' b' r s t) (post [.tmp 12] q) := by
  have o : Op2 a a' b b' := ⟨nA, nC, nB', nD, rA, rB⟩
  have la : a.length < 2 ^ 14 := by have := nA.len; omega
  have lb : b.length < 2 ^ 14 := by have := nB'.len; omega
  have la' : a'.length < 2 ^ 14 := by have := nC.len; omega
  have lb' : b'.length < 2 ^ 14 := by have := nD.len; omega
  have ka : a.length < 2 ^ 15 := by omega
  have kb : b.length < 2 ^ 15 := by omega
  have ka' : a'.length < 2 ^ 15 := by omega
  have kb' : b'.length < 2 ^ 15 := by omega
  have ba := byt_nv nA
  have bb := byt_nv nB'
  have ba' := byt_nv nC
  have bb' := byt_nv nD
  obtain ⟨G, hG⟩ : ∃ G, G = std CX TB B ⟨d, fun _ => none⟩ := ⟨_, rfl⟩
  refine sws_seq hG fun R hR => ?_
  cbv
  refine call hG [] (ones_ok) ⟨rfl, rfl, rfl⟩ ?_
  rintro _ _ ⟨rfl, rfl⟩
  cbv
  refine lp_le hG (s' := stM1 e a b e' a' b' r s t 0) (by constructor <;> cbv <;> simp) ?_
  refine lp_one hG ?_
  cbv
  refine call hG [] (vnot_ok a s ka ba) ⟨rfl, rfl, rfl⟩ ?_
  rintro _ _ ⟨Z, z, rfl, rfl, hZ, hz⟩
  cbv
  refine call hG [] (vnot_ok a' s ka' ba') ⟨rfl, rfl, rfl⟩ ?_
  rintro _ _ ⟨Y, y, rfl, rfl, hY, hy⟩
  cbv
  have P : Pk Z z Y y := by rw [hZ, hz, hY, hy]; exact pk_not nA nC rA
  refine call hG [] (kbr (c := true) (below_ok Z Y z y P.2.2.2 P.2.1 P.2.2.1) P.1) ⟨rfl, rfl, rfl⟩ ?_
  rintro _ _ ⟨rfl, rfl⟩
  cbv
  refine okd hG (by kernel_rfl) ?_
  refine lp_le hG (s' := stM1 e a b e' a' b' r s t 1) (by constructor <;> cbv <;> simp) ?_
  refine lp_one hG ?_
  cbv
  refine call hG [] (vneg_ok a s ka ba) ⟨rfl, rfl, rfl⟩ ?_
  rintro _ _ ⟨Z, z, rfl, rfl, hZ, hz⟩
  cbv
  refine call hG [] (vneg_ok a' s ka' ba') ⟨rfl, rfl, rfl⟩ ?_
  rintro _ _ ⟨Y, y, rfl, rfl, hY, hy⟩
  cbv
  have P : Pk Z z Y y := by rw [hZ, hz, hY, hy]; exact pk_neg nA nC rA
  refine call hG [] (kbr (c := true) (below_ok Z Y z y P.2.2.2 P.2.1 P.2.2.1) P.1) ⟨rfl, rfl, rfl⟩ ?_
  rintro _ _ ⟨rfl, rfl⟩
  cbv
  refine okd hG (by kernel_rfl) ?_
  refine lp_le hG (s' := stM1 e a b e' a' b' r s t 2) (by constructor <;> cbv <;> simp) ?_
  refine lp_one hG ?_
  cbv
  refine call hG [] (lnot_ok a s ka ba) ⟨rfl, rfl, rfl⟩ ?_
  rintro _ _ ⟨Z, z, rfl, rfl, hZ, hz⟩
  cbv
  refine call hG [] (lnot_ok a' s ka' ba') ⟨rfl, rfl, rfl⟩ ?_
  rintro _ _ ⟨Y, y, rfl, rfl, hY, hy⟩
  cbv
  have P : Pk [Z] z [Y] y := by rw [hZ, hz, hY, hy]; exact pk_nred nA nC rA mnOr bOr_44
  refine call hG [] (kbr (c := true) (below_ok [Z] [Y] z y P.2.2.2 P.2.1 P.2.2.1) P.1) ⟨rfl, rfl, rfl⟩ ?_
  rintro _ _ ⟨rfl, rfl⟩
  cbv
  refine okd hG (by kernel_rfl) ?_
  refine lp_le hG (s' := stM1 e a b e' a' b' r s t 3) (by constructor <;> cbv <;> simp) ?_
  refine lp_one hG ?_
  cbv
  refine call hG [] (redAnd_ok a s ka ba) ⟨rfl, rfl, rfl⟩ ?_
  rintro _ _ ⟨Z, z, rfl, rfl, hZ, hz⟩
  cbv
  refine call hG [] (redAnd_ok a' s ka' ba') ⟨rfl, rfl, rfl⟩ ?_
  rintro _ _ ⟨Y, y, rfl, rfl, hY, hy⟩
  cbv
  have P : Pk [Z] z [Y] y := by rw [hZ, hz, hY, hy]; exact pk_red nA nC rA mnAnd bAnd_44
  refine call hG [] (kbr (c := true) (below_ok [Z] [Y] z y P.2.2.2 P.2.1 P.2.2.1) P.1) ⟨rfl, rfl, rfl⟩ ?_
  rintro _ _ ⟨rfl, rfl⟩
  cbv
  refine okd hG (by kernel_rfl) ?_
  refine lp_le hG (s' := stM1 e a b e' a' b' r s t 4) (by constructor <;> cbv <;> simp) ?_
  refine lp_one hG ?_
  cbv
  refine call hG [] (redOr_ok a s ka ba) ⟨rfl, rfl, rfl⟩ ?_
  rintro _ _ ⟨Z, z, rfl, rfl, hZ, hz⟩
  cbv
  refine call hG [] (redOr_ok a' s ka' ba') ⟨rfl, rfl, rfl⟩ ?_
  rintro _ _ ⟨Y, y, rfl, rfl, hY, hy⟩
  cbv
  have P : Pk [Z] z [Y] y := by rw [hZ, hz, hY, hy]; exact pk_red nA nC rA mnOr bOr_44
  refine call hG [] (kbr (c := true) (below_ok [Z] [Y] z y P.2.2.2 P.2.1 P.2.2.1) P.1) ⟨rfl, rfl, rfl⟩ ?_
  rintro _ _ ⟨rfl, rfl⟩
  cbv
  refine okd hG (by kernel_rfl) ?_
  refine lp_le hG (s' := stM1 e a b e' a' b' r s t 5) (by constructor <;> cbv <;> simp) ?_
  refine lp_one hG ?_
  cbv
  refine call hG [] (redXor_ok a s ka ba) ⟨rfl, rfl, rfl⟩ ?_
  rintro _ _ ⟨Z, z, rfl, rfl, hZ, hz⟩
  cbv
  refine call hG [] (redXor_ok a' s ka' ba') ⟨rfl, rfl, rfl⟩ ?_
  rintro _ _ ⟨Y, y, rfl, rfl, hY, hy⟩
  cbv
  have P : Pk [Z] z [Y] y := by rw [hZ, hz, hY, hy]; exact pk_red nA nC rA mnXor bXor_44
  refine call hG [] (kbr (c := true) (below_ok [Z] [Y] z y P.2.2.2 P.2.1 P.2.2.1) P.1) ⟨rfl, rfl, rfl⟩ ?_
  rintro _ _ ⟨rfl, rfl⟩
  cbv
  refine okd hG (by kernel_rfl) ?_
  refine lp_le hG (s' := stM1 e a b e' a' b' r s t 6) (by constructor <;> cbv <;> simp) ?_
  refine lp_one hG ?_
  cbv
  refine call hG [] (redNand_ok a s ka ba) ⟨rfl, rfl, rfl⟩ ?_
  rintro _ _ ⟨Z, z, rfl, rfl, hZ, hz⟩
  cbv
  refine call hG [] (redNand_ok a' s ka' ba') ⟨rfl, rfl, rfl⟩ ?_
  rintro _ _ ⟨Y, y, rfl, rfl, hY, hy⟩
  cbv
  have P : Pk [Z] z [Y] y := by rw [hZ, hz, hY, hy]; exact pk_nred nA nC rA mnAnd bAnd_44
  refine call hG [] (kbr (c := true) (below_ok [Z] [Y] z y P.2.2.2 P.2.1 P.2.2.1) P.1) ⟨rfl, rfl, rfl⟩ ?_
  rintro _ _ ⟨rfl, rfl⟩
  cbv
  refine okd hG (by kernel_rfl) ?_
  refine lp_le hG (s' := stM1 e a b e' a' b' r s t 7) (by constructor <;> cbv <;> simp) ?_
  refine lp_one hG ?_
  cbv
  refine call hG [] (redNor_ok a s ka ba) ⟨rfl, rfl, rfl⟩ ?_
  rintro _ _ ⟨Z, z, rfl, rfl, hZ, hz⟩
  cbv
  refine call hG [] (redNor_ok a' s ka' ba') ⟨rfl, rfl, rfl⟩ ?_
  rintro _ _ ⟨Y, y, rfl, rfl, hY, hy⟩
  cbv
  have P : Pk [Z] z [Y] y := by rw [hZ, hz, hY, hy]; exact pk_nred nA nC rA mnOr bOr_44
  refine call hG [] (kbr (c := true) (below_ok [Z] [Y] z y P.2.2.2 P.2.1 P.2.2.1) P.1) ⟨rfl, rfl, rfl⟩ ?_
  rintro _ _ ⟨rfl, rfl⟩
  cbv
  refine okd hG (by kernel_rfl) ?_
  refine lp_le hG (s' := stM1 e a b e' a' b' r s t 8) (by constructor <;> cbv <;> simp) ?_
  refine lp_one hG ?_
  cbv
  refine call hG [] (redXnor_ok a s ka ba) ⟨rfl, rfl, rfl⟩ ?_
  rintro _ _ ⟨Z, z, rfl, rfl, hZ, hz⟩
  cbv
  refine call hG [] (redXnor_ok a' s ka' ba') ⟨rfl, rfl, rfl⟩ ?_
  rintro _ _ ⟨Y, y, rfl, rfl, hY, hy⟩
  cbv
  have P : Pk [Z] z [Y] y := by rw [hZ, hz, hY, hy]; exact pk_nred nA nC rA mnXor bXor_44
  refine call hG [] (kbr (c := true) (below_ok [Z] [Y] z y P.2.2.2 P.2.1 P.2.2.1) P.1) ⟨rfl, rfl, rfl⟩ ?_
  rintro _ _ ⟨rfl, rfl⟩
  cbv
  refine okd hG (by kernel_rfl) ?_
  refine lp_one hG ?_
  cbv
  exact hR _ (sws_le (s' := stM e a b e' a' b' r s t) (by constructor <;> cbv <;> simp) (monT e a b e' a' b' r s t nE nE' rE nA nC rA nB' nD rB q hq))
end Go.Proofs.YtdgbdkfoeaollaaGreatDoor.V
